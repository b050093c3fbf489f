/-
  CONTRACTS of functions of the program, and what they compute, by content.
-/
import Derived.Test.YtbhaeaehgmpfhaaCP6
set_option linter.unusedVariables false
set_option linter.unusedSimpArgs false
namespace Go.AM
/-! the permutation of a composite, and of an inverse, of piece states -/
theorem isPerm_of {l : List Int} (h1 : 1 ≤ l.length ∧ l.length ≤ 20) (hr : ∀ i, i < l.length → 0 ≤ l.getD i 0 ∧ l.getD i 0 < l.length) (inj : ∀ i j, i < l.length → j < l.length → l.getD i 0 = l.getD j 0 → i = j) : isPerm l := by
  refine ⟨h1, fun x hx => ?_, ?_⟩
  · obtain ⟨i, hi, rfl⟩ := List.getElem_of_mem hx
    have := hr i hi
    rwa [getD_eq _ _ _ hi] at this
  · rw [List.Nodup, List.pairwise_iff_getElem]
    intro i j hi hj hij e
    have := inj i j hi hj (by rw [getD_eq _ _ _ hi, getD_eq _ _ _ hj]; exact e)
    omega
theorem compI_perm {p q : List Int} (hp : isPerm p) (hq : isPerm q) (hl : p.length = q.length) : isPerm (compI p q) := by
  refine isPerm_of (by rw [compI_len]; exact hp.1) (fun i hi => ?_) (fun i j hi hj e => ?_)
  · rw [compI_len] at hi ⊢
    rw [compI_get _ _ _ hi]
    have h1 := perm_get hp hi
    have h2 := perm_get hq (show (p.getD i 0).toNat < q.length by omega)
    omega
  · rw [compI_len] at hi hj
    rw [compI_get _ _ _ hi, compI_get _ _ _ hj] at e
    have h1 := perm_get hp hi
    have h2 := perm_get hp hj
    have := perm_inj hq (by omega) (by omega) e
    exact perm_inj hp hi hj (by omega)
theorem invI_get {p : List Int} (hp : isPerm p) {i : Nat} (hi : i < p.length) : (invI p).getD (p.getD i 0).toNat 0 = i := by
  rw [invI, scat_get _ p _ 0 hp (by simp) _ (Nat.le_refl _) i hi]
theorem invI_perm {p : List Int} (hp : isPerm p) : isPerm (invI p) := by
  refine isPerm_of (by rw [invI_len]; exact hp.1) (fun j hj => ?_) (fun j j' hj hj' e => ?_)
  · rw [invI_len] at hj ⊢
    obtain ⟨i, hi, rfl⟩ := perm_surj hp j hj
    rw [invI_get hp hi]; omega
  · rw [invI_len] at hj hj'
    obtain ⟨i, hi, rfl⟩ := perm_surj hp j hj
    obtain ⟨i', hi', rfl⟩ := perm_surj hp j' hj'
    rw [invI_get hp hi, invI_get hp hi'] at e
    have : i = i' := by omega
    rw [this]
def bas (ks : List Kind) (n : Nat) : Nat := (facets (ks.take n)).toNat
end Go.AM

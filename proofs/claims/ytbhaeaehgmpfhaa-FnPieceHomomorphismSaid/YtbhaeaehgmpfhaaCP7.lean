/-
  CONTRACTS of functions of the program, and what they compute, by content.
-/
import Derived.Test.YtbhaeaehgmpfhaaCP6
set_option linter.unusedVariables false
set_option linter.unusedSimpArgs false
namespace Go.AM
/-! the permutation of a piece state is one -/
theorem mod_inj {o j j' b : Nat} (hj : j < o) (hj' : j' < o) (e : (j + b) % o = (j' + b) % o) : j = j' := by
  have key : ∀ j j', j ≤ j' → j' < o → (j + b) % o = (j' + b) % o → j = j' := by
    intro j j' hle hlt e
    have h1 : (j' + b - (j + b)) % o = 0 := Nat.sub_mod_eq_zero_of_mod_eq e.symm
    have h2 : j' + b - (j + b) = j' - j := by omega
    rw [h2, Nat.mod_eq_of_lt (by omega)] at h1
    omega
  rcases Nat.le_total j j' with h | h
  · exact key j j' h hj' e
  · exact (key j' j h hj e.symm).symm
theorem tmod_nat (a : Int) (o : Nat) (h : 0 ≤ a) : a.tmod (o : Int) = ((a.toNat % o : Nat) : Int) := by
  obtain ⟨n, rfl⟩ := Int.eq_ofNat_of_zero_le h
  rw [Int.tmod_eq_emod_of_nonneg (by omega)]; simp
theorem cell_mem {base to by' : Int} {o j : Nat} (hb : 0 ≤ by') (ho : 0 < o) {x : Int} (hx : x ∈ cellL base o to by' j) : ∃ m : Nat, m < o ∧ x = base + to * o + m := by
  unfold cellL at hx
  obtain ⟨i, _, rfl⟩ := List.mem_map.1 hx
  rw [tmod_nat _ _ (by omega)]
  exact ⟨_, Nat.mod_lt _ ho, rfl⟩
theorem cell_nodup {base to by' : Int} {o : Nat} (hb : 0 ≤ by') : ∀ j, j ≤ o → (cellL base o to by' j).Nodup := by
  intro j hj
  unfold cellL
  rw [List.Nodup, List.pairwise_map]
  refine List.Pairwise.imp_of_mem ?_ (List.nodup_range (n := j))
  intro a b ha hb' hab e
  rw [List.mem_range] at ha hb'
  rw [tmod_nat _ _ (by omega), tmod_nat _ _ (by omega)] at e
  have e2 : ((a : Int) + by').toNat % o = ((b : Int) + by').toNat % o := by omega
  have e3 : ((a : Int) + by').toNat = a + by'.toNat := by omega
  have e4 : ((b : Int) + by').toNat = b + by'.toNat := by omega
  rw [e3, e4] at e2
  exact hab (mod_inj (by omega) (by omega) e2)
theorem split_uniq {o m m' : Nat} {a a' : Int} (hm : m < o) (hm' : m' < o) (e : a * o + m = a' * o + m') : a = a' := by
  have h1 : (a * o + m) / (o : Int) = a := by
    rw [Int.add_comm, Int.add_mul_ediv_right _ _ (by omega), Int.ediv_eq_zero_of_lt (by omega) (by omega)]; omega
  have h2 : (a' * o + m') / (o : Int) = a' := by
    rw [Int.add_comm, Int.add_mul_ediv_right _ _ (by omega), Int.ediv_eq_zero_of_lt (by omega) (by omega)]; omega
  rw [← h1, e, h2]
theorem row_mem {base : Int} {o : Nat} {t : Twist} (ho : 0 < o) : ∀ i, i ≤ t.to.length → i ≤ t.by'.length → (∀ x ∈ t.by', 0 ≤ x) → ∀ x ∈ rowL base o t i, ∃ j m : Nat, j < i ∧ m < o ∧ x = base + t.to.getD j 0 * o + m
  | 0, _, _, _, x, hx => by simp [rowL] at hx
  | i + 1, h1, h2, hb, x, hx => by
    rw [rowL, List.mem_append] at hx
    rcases hx with hx | hx
    · obtain ⟨j, m, h3, h4, h5⟩ := row_mem ho i (by omega) (by omega) hb x hx
      exact ⟨j, m, by omega, h4, h5⟩
    · rw [Int.toNat_natCast] at hx
      obtain ⟨m, h3, h4⟩ := cell_mem (hb _ (mem_getD t.by' i 0 (by omega))) ho hx
      exact ⟨i, m, by omega, h3, h4⟩
theorem row_nodup {base : Int} {o : Nat} {t : Twist} (ho : 0 < o) (hp : isPerm t.to) : ∀ i, i ≤ t.to.length → i ≤ t.by'.length → (∀ x ∈ t.by', 0 ≤ x) → (rowL base o t i).Nodup
  | 0, _, _, _ => by simp [rowL]
  | i + 1, h1, h2, hb => by
    rw [rowL, List.nodup_append, Int.toNat_natCast]
    refine ⟨row_nodup ho hp i (by omega) (by omega) hb, cell_nodup (hb _ (mem_getD t.by' i 0 (by omega))) o (Nat.le_refl _), ?_⟩
    intro a ha b hb' e
    subst e
    obtain ⟨j, m, h3, h4, h5⟩ := row_mem ho i (by omega) (by omega) hb a ha
    obtain ⟨m', h6, h7⟩ := cell_mem (hb _ (mem_getD t.by' i 0 (by omega))) ho hb'
    have := split_uniq h4 h6 (show t.to.getD j 0 * o + m = t.to.getD i 0 * o + m' by omega)
    have := perm_inj hp (by omega) (by omega) this
    omega
theorem permL_ok {ks : List Kind} {s : List Twist} (ps : psOk ks s) : ∀ n, n ≤ ks.length → (∀ x ∈ permL ks s n, 0 ≤ x ∧ x < facets (ks.take n)) ∧ (permL ks s n).Nodup
  | 0, _ => by simp [permL]
  | n + 1, hn => by
    obtain ⟨h1, h2⟩ := permL_ok ps n (by omega)
    have ta := tw_get ps (show n < ks.length by omega)
    have hk := ps.1.2.1 _ (mem_getD ks n default (by omega))
    obtain ⟨c, o, hc, ho, la, la', c1, c2, o1, o2⟩ := twOk_facts ta hk
    have hlen := permL_len ks s ps.1.2.1 n (by omega)
    have hft := facets_take ks n (by omega)
    have hby : ∀ x ∈ (s.getD n default).by', 0 ≤ x := fun x hx => (ta.2.2.2 x hx).1
    have hrow : ∀ x ∈ rowL (permL ks s n).length o (s.getD n default) c, (permL ks s n).length ≤ x ∧ x < facets (ks.take (n + 1)) := by
      intro x hx
      obtain ⟨j, m, h3, h4, h5⟩ := row_mem (by omega) c (by omega) (by omega) hby x hx
      have hg := to_get ta (show j < (s.getD n default).to.length by omega)
      have e1 : (s.getD n default).to.getD j 0 * o ≤ ((c : Int) - 1) * o := Int.mul_le_mul_of_nonneg_right (by omega) (by omega)
      have e2 : 0 ≤ (s.getD n default).to.getD j 0 * (o : Int) := Int.mul_nonneg hg.1 (by omega)
      have e3 : ((c : Int) - 1) * o = c * o - o := by rw [Int.sub_mul]; omega
      rw [hft, hc, ho, h5]
      omega
    rw [permL, hc, ho, Int.toNat_natCast]
    refine ⟨fun x hx => ?_, ?_⟩
    · rcases List.mem_append.1 hx with hx | hx
      · have := h1 x hx
        have : 0 ≤ (c : Int) * o := Int.mul_nonneg (by omega) (by omega)
        rw [hft, hc, ho]; omega
      · have := hrow x hx; omega
    · rw [List.nodup_append]
      refine ⟨h2, row_nodup (by omega) ta.2.2.1 c (by omega) (by omega) hby, ?_⟩
      intro a ha b hb e
      subst e
      have := h1 a ha
      have := hrow a hb
      omega
theorem permOf_len {ks : List Kind} {s : List Twist} (ps : psOk ks s) : ((permOf ks s).length : Int) = facets ks := by
  have := permL_len ks s ps.1.2.1 ks.length (Nat.le_refl _)
  rwa [List.take_length] at this
theorem permOf_perm {ks : List Kind} {s : List Twist} (ps : psOk ks s) : isPerm (permOf ks s) := by
  have hl := permOf_len ps
  have hb := facets_bound ks ps.1.2.1
  have := ps.1.2.2
  have := ps.1.1.1
  obtain ⟨h1, h2⟩ := permL_ok ps ks.length (Nat.le_refl _)
  rw [List.take_length, ← hl] at h1
  exact ⟨by omega, h1, h2⟩
end Go.AM

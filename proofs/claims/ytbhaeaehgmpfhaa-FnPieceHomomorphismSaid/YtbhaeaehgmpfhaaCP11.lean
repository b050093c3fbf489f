/-
  CONTRACTS of functions of the program, and what they compute, by content.
-/
import Derived.Test.YtbhaeaehgmpfhaaCP7
set_option linter.unusedVariables false
set_option linter.unusedSimpArgs false
namespace Go.AM
/-! the permutation of a composite, and of an inverse, of piece states -/
theorem isPerm_of {l : List Int} (h1 : 1 ≤ l.length ∧ l.length ≤ 20) (hr : ∀ i, i < l.length → 0 ≤ l.getD i 0 ∧ l.getD i 0 < l.length) (inj : ∀ i j, i < l.length → j < l.length → l.getD i 0 = l.getD j 0 → i = j) : isPerm l := by
  refine ⟨h1, fun x hx => ?_, ?_⟩
  · obtain ⟨i, hi, rfl⟩ := List.getElem_of_mem hx
    have := hr i hi
    rwa [getD_eq _ _ _ hi] at this
  · rw [List.Nodup, List.pairwise_iff_getElem]
    intro i j hi hj hij e
    have := inj i j hi hj (by rw [getD_eq _ _ _ hi, getD_eq _ _ _ hj]; exact e)
    omega
theorem compI_perm {p q : List Int} (hp : isPerm p) (hq : isPerm q) (hl : p.length = q.length) : isPerm (compI p q) := by
  refine isPerm_of (by rw [compI_len]; exact hp.1) (fun i hi => ?_) (fun i j hi hj e => ?_)
  · rw [compI_len] at hi ⊢
    rw [compI_get _ _ _ hi]
    have h1 := perm_get hp hi
    have h2 := perm_get hq (show (p.getD i 0).toNat < q.length by omega)
    omega
  · rw [compI_len] at hi hj
    rw [compI_get _ _ _ hi, compI_get _ _ _ hj] at e
    have h1 := perm_get hp hi
    have h2 := perm_get hp hj
    have := perm_inj hq (by omega) (by omega) e
    exact perm_inj hp hi hj (by omega)
theorem invI_get {p : List Int} (hp : isPerm p) {i : Nat} (hi : i < p.length) : (invI p).getD (p.getD i 0).toNat 0 = i := by
  rw [invI, scat_get _ p _ 0 hp (by simp) _ (Nat.le_refl _) i hi]
theorem invI_perm {p : List Int} (hp : isPerm p) : isPerm (invI p) := by
  refine isPerm_of (by rw [invI_len]; exact hp.1) (fun j hj => ?_) (fun j j' hj hj' e => ?_)
  · rw [invI_len] at hj ⊢
    obtain ⟨i, hi, rfl⟩ := perm_surj hp j hj
    rw [invI_get hp hi]; omega
  · rw [invI_len] at hj hj'
    obtain ⟨i, hi, rfl⟩ := perm_surj hp j hj
    obtain ⟨i', hi', rfl⟩ := perm_surj hp j' hj'
    rw [invI_get hp hi, invI_get hp hi'] at e
    have : i = i' := by omega
    rw [this]
theorem tmod_in {a o : Int} (h : 0 ≤ a) (ho : 0 < o) : 0 ≤ a.tmod o ∧ a.tmod o < o := ⟨Int.tmod_nonneg _ h, Int.tmod_lt_of_pos _ ho⟩
theorem comp_ok {ks : List Kind} {a b : List Twist} (pa : psOk ks a) (pb : psOk ks b) : psOk ks (compS ks a b) := by
  refine ⟨pa.1, compS_len .., fun n hn => ?_⟩
  rw [compS, range_map_get _ _ _ _ hn]
  have ta := tw_get pa hn
  have tb := tw_get pb hn
  have hk := pa.1.2.1 _ (mem_getD ks n default hn)
  obtain ⟨c, o, hc, ho, la, la', c1, c2, o1, o2⟩ := twOk_facts ta hk
  obtain ⟨c', o', hc', ho', lb, lb', _⟩ := twOk_facts tb hk
  refine ⟨by simp only [compT, compI_len]; omega, by simp only [compT, range_map_len]; omega, compI_perm ta.2.2.1 tb.2.2.1 (by omega), fun x hx => ?_⟩
  obtain ⟨i, hi, rfl⟩ := List.mem_map.1 hx
  rw [List.mem_range] at hi
  have h1 := by_get ta (show i < (a.getD n default).by'.length by omega)
  have h2 := to_get ta hi
  have h3 := by_get tb (show ((a.getD n default).to.getD i 0).toNat < (b.getD n default).by'.length by omega)
  exact tmod_in (by omega) (by omega)
theorem inv_ok {ks : List Kind} {a : List Twist} (pa : psOk ks a) : psOk ks (invS ks a) := by
  refine ⟨pa.1, invS_len .., fun n hn => ?_⟩
  rw [invS, range_map_get _ _ _ _ hn]
  have ta := tw_get pa hn
  have hk := pa.1.2.1 _ (mem_getD ks n default hn)
  obtain ⟨c, o, hc, ho, la, la', c1, c2, o1, o2⟩ := twOk_facts ta hk
  refine ⟨by simp only [invT, invI_len]; omega, by simp only [invT, scat_len, List.length_replicate]; omega, invI_perm ta.2.2.1, fun x hx => ?_⟩
  simp only [invT] at hx
  obtain ⟨j, hj, rfl⟩ := List.getElem_of_mem hx
  rw [scat_len, List.length_replicate] at hj
  rw [← getD_eq _ _ 0]
  obtain ⟨i, hi, rfl⟩ := perm_surj ta.2.2.1 j hj
  rw [scat_get _ _ _ 0 ta.2.2.1 (by simp) _ (Nat.le_refl _) i hi]
  have h1 := by_get ta (show i < (a.getD n default).by'.length by omega)
  exact tmod_in (by omega) (by omega)
def bas (ks : List Kind) (n : Nat) : Nat := (facets (ks.take n)).toNat
theorem cell_get {base o to by' : Int} {n j : Nat} (h : j < n) : (cellL base o to by' n).getD j 0 = base + to * o + ((j : Int) + by').tmod o := by
  unfold cellL; rw [range_map_get _ _ _ _ h]
theorem getD_app_l {α : Type} (a b : List α) (i : Nat) (d : α) (h : i < a.length) : (a ++ b).getD i d = a.getD i d := by
  simp only [List.getD, List.getElem?_append_left h]
theorem getD_app_r {α : Type} (a b : List α) (i : Nat) (d : α) : (a ++ b).getD (a.length + i) d = b.getD i d := by
  simp only [List.getD, List.getElem?_append_right (show a.length ≤ a.length + i by omega)]
  congr 2; omega
theorem in_row {i j c o : Nat} (hi : i < c) (hj : j < o) : i * o + j < c * o := by
  have h1 : (i + 1) * o ≤ c * o := Nat.mul_le_mul_right o hi
  rw [Nat.succ_mul] at h1; omega
theorem row_get {base : Int} {o : Nat} {t : Twist} : ∀ m i j, i < m → j < o → (rowL base o t m).getD (i * o + j) 0 = base + t.to.getD i 0 * o + ((j : Int) + t.by'.getD i 0).tmod o
  | m + 1, i, j, hi, hj => by
    have hl := rowL_len base o t m
    rw [Int.toNat_natCast] at hl
    rw [rowL, Int.toNat_natCast]
    by_cases h : i < m
    · rw [getD_app_l _ _ _ _ (by rw [hl]; exact in_row h hj)]
      exact row_get m i j h hj
    · have : i = m := by omega
      subst this
      have e : i * o + j = (rowL base o t i).length + j := by rw [hl]
      rw [e, getD_app_r, cell_get hj]
theorem bas_len {ks : List Kind} {s : List Twist} (h : ∀ k ∈ ks, kOk k) {n : Nat} (hn : n ≤ ks.length) : (permL ks s n).length = bas ks n := by
  have := permL_len ks s h n hn
  unfold bas; omega
theorem bas_succ {ks : List Kind} (h : kindsOk ks) {n c o : Nat} (hn : n < ks.length) (hc : (ks.getD n default).c = c) (ho : (ks.getD n default).o = o) : bas ks (n + 1) = bas ks n + c * o := by
  have h1 := facets_take ks n hn
  have h2 := (facets_mono ks h.2.1 n).2
  have h3 : ((c * o : Nat) : Int) = (c : Int) * o := by simp
  rw [hc, ho, ← h3] at h1
  unfold bas; omega
theorem bas_le {ks : List Kind} (h : kindsOk ks) {m : Nat} : ∀ d, m + d ≤ ks.length → bas ks m ≤ bas ks (m + d)
  | 0, _ => Nat.le_refl _
  | d + 1, hd => by
    have hk := h.2.1 _ (mem_getD ks (m + d) default (by omega))
    have ih := bas_le h (m := m) d (by omega)
    obtain ⟨c, hc⟩ : ∃ c : Nat, (ks.getD (m + d) default).c = c := ⟨_, (Int.toNat_of_nonneg (by have := hk.1; omega)).symm⟩
    obtain ⟨o, ho⟩ : ∃ o : Nat, (ks.getD (m + d) default).o = o := ⟨_, (Int.toNat_of_nonneg (by have := hk.2; omega)).symm⟩
    have := bas_succ h (show m + d < ks.length by omega) hc ho
    rw [← Nat.add_assoc, this]; omega
theorem permL_get {ks : List Kind} {s : List Twist} (ps : psOk ks s) : ∀ n, n ≤ ks.length → ∀ (k i j c o : Nat), k < n → (ks.getD k default).c = c → (ks.getD k default).o = o → i < c → j < o →
    (permL ks s n).getD (bas ks k + (i * o + j)) 0 = bas ks k + (s.getD k default).to.getD i 0 * o + ((j : Int) + (s.getD k default).by'.getD i 0).tmod o
  | n + 1, hn, k, i, j, c, o, hk, hc, ho, hi, hj => by
    have hl := bas_len (s := s) ps.1.2.1 (show n ≤ ks.length by omega)
    rw [permL]
    by_cases h : k < n
    · have h1 := bas_succ ps.1 (show k < ks.length by omega) hc ho
      have h2 := bas_le ps.1 (m := k + 1) (n - (k + 1)) (by omega)
      rw [show k + 1 + (n - (k + 1)) = n by omega] at h2
      have h3 := in_row hi hj
      rw [getD_app_l _ _ _ _ (by omega)]
      exact permL_get ps n (by omega) k i j c o h hc ho hi hj
    · have : k = n := by omega
      subst this
      rw [← hl, getD_app_r, hc, ho, Int.toNat_natCast, row_get c i j hi hj]
theorem bas_surj {ks : List Kind} (h : kindsOk ks) : ∀ n, n ≤ ks.length → ∀ x, x < bas ks n → ∃ k i j c o : Nat, k < n ∧ (ks.getD k default).c = c ∧ (ks.getD k default).o = o ∧ i < c ∧ j < o ∧ x = bas ks k + (i * o + j)
  | 0, _, x, hx => by simp [bas, facets] at hx
  | n + 1, hn, x, hx => by
    by_cases h1 : x < bas ks n
    · obtain ⟨k, i, j, c, o, h2, h3⟩ := bas_surj h n (by omega) x h1
      exact ⟨k, i, j, c, o, by omega, h3⟩
    · have hk := h.2.1 _ (mem_getD ks n default (by omega))
      obtain ⟨c, hc⟩ : ∃ c : Nat, (ks.getD n default).c = c := ⟨_, (Int.toNat_of_nonneg (by have := hk.1; omega)).symm⟩
      obtain ⟨o, ho⟩ : ∃ o : Nat, (ks.getD n default).o = o := ⟨_, (Int.toNat_of_nonneg (by have := hk.2; omega)).symm⟩
      have hb := bas_succ h (show n < ks.length by omega) hc ho
      have ho1 : 0 < o := by have := hk.2; omega
      refine ⟨n, (x - bas ks n) / o, (x - bas ks n) % o, c, o, by omega, hc, ho, ?_, Nat.mod_lt _ ho1, ?_⟩
      · rw [Nat.div_lt_iff_lt_mul ho1]; omega
      · have := Nat.div_add_mod (x - bas ks n) o
        rw [Nat.mul_comm] at this; omega
theorem kinds_nat {ks : List Kind} {a : List Twist} (pa : psOk ks a) {k i c o j : Nat} (hk : k < ks.length) (hc : (ks.getD k default).c = c) (ho : (ks.getD k default).o = o) (hi : i < c) (hj : j < o) :
    ∃ t b m : Nat, (a.getD k default).to.getD i 0 = t ∧ (a.getD k default).by'.getD i 0 = b ∧ t < c ∧ b < o ∧ m < o ∧ m = (j + b) % o ∧ (permOf ks a).getD (bas ks k + (i * o + j)) 0 = ((bas ks k + (t * o + m) : Nat) : Int) := by
  have ta := tw_get pa hk
  have hl : ((a.getD k default).to.length : Int) = c := by rw [← hc]; exact ta.1
  have hl' : ((a.getD k default).by'.length : Int) = c := by rw [← hc]; exact ta.2.1
  have h1 := to_get ta (show i < (a.getD k default).to.length by omega)
  have h2 := by_get ta (show i < (a.getD k default).by'.length by omega)
  obtain ⟨t, ht⟩ : ∃ t : Nat, (a.getD k default).to.getD i 0 = t := ⟨_, (Int.toNat_of_nonneg h1.1).symm⟩
  obtain ⟨b, hb⟩ : ∃ b : Nat, (a.getD k default).by'.getD i 0 = b := ⟨_, (Int.toNat_of_nonneg h2.1).symm⟩
  have hg := permL_get pa ks.length (Nat.le_refl _) k i j c o hk hc ho hi hj
  rw [ht, hb, tmod_nat _ _ (by omega), show ((j : Int) + (b : Int)).toNat = j + b by omega] at hg
  refine ⟨t, b, (j + b) % o, ht, hb, by omega, by omega, Nat.mod_lt _ (by omega), rfl, ?_⟩
  show (permL ks a ks.length).getD _ 0 = _
  rw [hg, Int.natCast_add, Int.natCast_add, Int.natCast_mul]; omega
theorem permOf_length {ks : List Kind} {a : List Twist} (pa : psOk ks a) : (permOf ks a).length = bas ks ks.length := bas_len pa.1.2.1 (Nat.le_refl _)
theorem perm_comp {ks : List Kind} {a b : List Twist} (pa : psOk ks a) (pb : psOk ks b) : permOf ks (compS ks a b) = compI (permOf ks a) (permOf ks b) := by
  have pc := comp_ok pa pb
  refine ext_getD 0 (by rw [compI_len, permOf_length pc, permOf_length pa]) fun x hx => ?_
  rw [permOf_length pc] at hx
  rw [compI_get _ _ _ (by rw [permOf_length pa]; exact hx)]
  obtain ⟨k, i, j, c, o, hk, hc, ho, hi, hj, rfl⟩ := bas_surj pa.1 _ (Nat.le_refl _) x hx
  obtain ⟨t, y, m, h1, h2, h3, h4, h5, h6, h7⟩ := kinds_nat pa hk hc ho hi hj
  obtain ⟨t', y', m', g1, g2, g3, g4, g5, g6, g7⟩ := kinds_nat pb hk hc ho h3 h5
  obtain ⟨t'', y'', m'', f1, f2, f3, f4, f5, f6, f7⟩ := kinds_nat pc hk hc ho hi hj
  rw [h7, Int.toNat_natCast, g7, f7]
  have ta := tw_get pa hk
  have hl : ((a.getD k default).to.length : Int) = c := by rw [← hc]; exact ta.1
  have hcomp : (compS ks a b).getD k default = compT (ks.getD k default).o (a.getD k default) (b.getD k default) := by rw [compS, range_map_get _ _ _ _ hk]
  rw [hcomp] at f1 f2
  simp only [compT] at f1 f2
  rw [compI_get _ _ _ (by omega), h1, Int.toNat_natCast, g1] at f1
  rw [range_map_get _ _ _ _ (by omega), compB, h1, h2, Int.toNat_natCast, g2, ho, tmod_nat _ _ (by omega), show ((y : Int) + (y' : Int)).toNat = y + y' by omega] at f2
  have e1 : t'' = t' := by omega
  have e2 : y'' = (y + y') % o := by omega
  have e3 : m'' = m' := by rw [f6, g6, h6, e2, Nat.add_mod_mod, Nat.mod_add_mod, Nat.add_assoc]
  rw [e1, e3]
theorem perm_inv {ks : List Kind} {a : List Twist} (pa : psOk ks a) : permOf ks (invS ks a) = invI (permOf ks a) := by
  have pc := inv_ok pa
  have hpp := permOf_perm pa
  refine ext_getD 0 (by rw [invI_len, permOf_length pc, permOf_length pa]) fun z hz => ?_
  rw [permOf_length pc, ← permOf_length pa] at hz
  obtain ⟨x, hx, rfl⟩ := perm_surj hpp z hz
  rw [invI_get hpp hx]
  rw [permOf_length pa] at hx
  obtain ⟨k, i, j, c, o, hk, hc, ho, hi, hj, rfl⟩ := bas_surj pa.1 _ (Nat.le_refl _) x hx
  obtain ⟨t, y, m, h1, h2, h3, h4, h5, h6, h7⟩ := kinds_nat pa hk hc ho hi hj
  obtain ⟨t', y', m', g1, g2, g3, g4, g5, g6, g7⟩ := kinds_nat pc hk hc ho h3 h5
  rw [h7, Int.toNat_natCast, g7]
  have ta := tw_get pa hk
  have hl : ((a.getD k default).to.length : Int) = c := by rw [← hc]; exact ta.1
  have hinv : (invS ks a).getD k default = invT (ks.getD k default).o (a.getD k default) := by rw [invS, range_map_get _ _ _ _ hk]
  rw [hinv] at g1 g2
  simp only [invT] at g1 g2
  have e0 : t = ((a.getD k default).to.getD i 0).toNat := by omega
  have e1 := invI_get ta.2.2.1 (show i < (a.getD k default).to.length by omega)
  have e2 := scat_get (List.replicate (a.getD k default).to.length 0) (a.getD k default).to (invB (ks.getD k default).o (a.getD k default)) 0 ta.2.2.1 (by simp) _ (Nat.le_refl _) i (by omega)
  rw [← e0] at e1 e2
  rw [e1] at g1
  rw [e2, invB, h2, ho, tmod_nat _ _ (by omega), show ((o : Int) - (y : Int)).toNat = o - y by omega] at g2
  have e3 : t' = i := by omega
  have e4 : y' = (o - y) % o := by omega
  have e5 : m' = j := by
    rw [g6, h6, e4, Nat.add_mod_mod, Nat.mod_add_mod, show j + y + (o - y) = j + o by omega, Nat.add_mod_right, Nat.mod_eq_of_lt hj]
  rw [e3, e5]
end Go.AM

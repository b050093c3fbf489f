/-
  CONTRACTS of functions of the program, and what they compute, by content.
-/
import Derived.Test.YtbhaeaehgmpfhaaCP3
set_option linter.unusedVariables false
set_option linter.unusedSimpArgs false
namespace Go.AM
/-! cycles, plainly -/
def itN (f : Nat → Nat) : Nat → Nat → Nat
  | 0, x => x
  | k + 1, x => f (itN f k x)
theorem itN_add (f : Nat → Nat) (a : Nat) : ∀ b x, itN f (a + b) x = itN f b (itN f a x)
  | 0, _ => rfl
  | b + 1, x => by rw [← Nat.add_assoc, itN, itN, itN_add f a b x]
structure PermF (n : Nat) (f : Nat → Nat) : Prop where
  lt : ∀ x, x < n → f x < n
  inj : ∀ x y, x < n → y < n → f x = f y → x = y
section
variable {n : Nat} {f : Nat → Nat}
theorem PermF.itlt (h : PermF n f) : ∀ k x, x < n → itN f k x < n
  | 0, _, hx => hx
  | k + 1, x, hx => h.lt _ (h.itlt k x hx)
theorem PermF.itinj (h : PermF n f) : ∀ k x y, x < n → y < n → itN f k x = itN f k y → x = y
  | 0, _, _, _, _, e => e
  | k + 1, x, y, hx, hy, e => h.itinj k x y hx hy (h.inj _ _ (h.itlt k x hx) (h.itlt k y hy) e)
/-- two places of a list that is longer than what it holds bear the same -/
theorem pigeon (g : Nat → Nat) (hg : ∀ i, i ≤ n → g i < n) : ∃ i j, i < j ∧ j ≤ n ∧ g i = g j := by
  apply Classical.byContradiction
  intro hno
  have hn : ((List.range (n + 1)).map g).Nodup := by
    rw [List.Nodup, List.pairwise_map]
    refine List.Pairwise.imp_of_mem ?_ (List.nodup_range (n := n + 1))
    intro a b ha hb hab e
    rw [List.mem_range] at ha hb
    rcases Nat.lt_or_gt_of_ne hab with hlt | hlt
    · exact hno ⟨a, b, hlt, by omega, e⟩
    · exact hno ⟨b, a, hlt, by omega, e.symm⟩
  have := len_le_of_sub _ (List.range n) hn fun x hx => by
    obtain ⟨i, hi, rfl⟩ := List.mem_map.1 hx
    rw [List.mem_range] at hi ⊢
    exact hg i (by omega)
  simp at this
  omega
theorem PermF.back (h : PermF n f) (x : Nat) (hx : x < n) : ∃ k, 1 ≤ k ∧ k ≤ n ∧ itN f k x = x := by
  obtain ⟨i, j, hij, hj, e⟩ := pigeon (n := n) (fun i => itN f i x) (fun i _ => h.itlt i x hx)
  refine ⟨j - i, by omega, by omega, ?_⟩
  have e2 : j = (j - i) + i := by omega
  rw [e2, itN_add] at e
  exact (h.itinj i _ _ hx (h.itlt _ _ hx) e).symm
def perN (n : Nat) (f : Nat → Nat) (x : Nat) : Nat := ((List.range n).find? fun k => itN f (k + 1) x == x).getD 0 + 1
theorem PermF.per (h : PermF n f) (x : Nat) (hx : x < n) : 1 ≤ perN n f x ∧ perN n f x ≤ n ∧ itN f (perN n f x) x = x ∧ ∀ k, 1 ≤ k → k < perN n f x → itN f k x ≠ x := by
  unfold perN
  cases e : (List.range n).find? fun k => itN f (k + 1) x == x with
  | none =>
    obtain ⟨k, h1, h2, h3⟩ := h.back x hx
    rw [List.find?_eq_none] at e
    have := e (k - 1) (List.mem_range.2 (by omega))
    rw [show k - 1 + 1 = k by omega] at this
    simp [h3] at this
  | some k =>
    rw [List.find?_range_eq_some] at e
    obtain ⟨h1, h2, h3⟩ := e
    simp only [Option.getD_some]
    simp at h1
    rw [List.mem_range] at h2
    refine ⟨by omega, by omega, h1, fun j hj1 hj2 => ?_⟩
    have := h3 (j - 1) (by omega)
    rw [show j - 1 + 1 = j by omega] at this
    simpa using this
def orbN (n : Nat) (f : Nat → Nat) (x : Nat) : List Nat := (List.range (perN n f x)).map fun i => itN f i x
theorem orbN_len (x : Nat) : (orbN n f x).length = perN n f x := by simp [orbN]
theorem PermF.itmod (h : PermF n f) (x : Nat) (hx : x < n) : ∀ m k, itN f (k + m * perN n f x) x = itN f k x
  | 0, k => by simp
  | m + 1, k => by
    have e : k + (m + 1) * perN n f x = perN n f x + (k + m * perN n f x) := by rw [Nat.succ_mul]; omega
    rw [e, itN_add, (h.per x hx).2.2.1, h.itmod x hx m k]
theorem PermF.mem_orb (h : PermF n f) (x : Nat) (hx : x < n) (y : Nat) : y ∈ orbN n f x ↔ ∃ k, itN f k x = y := by
  unfold orbN
  rw [List.mem_map]
  constructor
  · rintro ⟨k, _, e⟩; exact ⟨k, e⟩
  · rintro ⟨k, e⟩
    have hp := (h.per x hx).1
    refine ⟨k % perN n f x, List.mem_range.2 (Nat.mod_lt _ (by omega)), ?_⟩
    have := h.itmod x hx (k / perN n f x) (k % perN n f x)
    rw [Nat.mul_comm, Nat.mod_add_div] at this
    rw [← this]; exact e
theorem PermF.orb_lt (h : PermF n f) (x : Nat) (hx : x < n) (y : Nat) (hy : y ∈ orbN n f x) : y < n := by
  obtain ⟨k, rfl⟩ := (h.mem_orb x hx y).1 hy; exact h.itlt k x hx
theorem PermF.orb_self (h : PermF n f) (x : Nat) (hx : x < n) : x ∈ orbN n f x := (h.mem_orb x hx x).2 ⟨0, rfl⟩
theorem PermF.orb_symm (h : PermF n f) (x : Nat) (hx : x < n) (y : Nat) (hy : y ∈ orbN n f x) : x ∈ orbN n f y := by
  have hyn := h.orb_lt x hx y hy
  unfold orbN at hy
  obtain ⟨k, hk, rfl⟩ := List.mem_map.1 hy
  have hk' := List.mem_range.1 hk
  refine (h.mem_orb _ hyn x).2 ⟨perN n f x - k, ?_⟩
  rw [← itN_add, show k + (perN n f x - k) = perN n f x by omega, (h.per x hx).2.2.1]
theorem PermF.orb_trans (h : PermF n f) (x y z : Nat) (hx : x < n) (hy : y ∈ orbN n f x) (hz : z ∈ orbN n f y) : z ∈ orbN n f x := by
  have hyn := h.orb_lt x hx y hy
  obtain ⟨k, rfl⟩ := (h.mem_orb x hx y).1 hy
  obtain ⟨m, rfl⟩ := (h.mem_orb _ hyn z).1 hz
  exact (h.mem_orb x hx _).2 ⟨k + m, by rw [itN_add]⟩
theorem PermF.orb_nodup (h : PermF n f) (x : Nat) (hx : x < n) : (orbN n f x).Nodup := by
  unfold orbN
  rw [List.Nodup, List.pairwise_map]
  refine List.Pairwise.imp_of_mem ?_ (List.nodup_range (n := perN n f x))
  have key : ∀ a b, a < b → b < perN n f x → itN f a x = itN f b x → False := by
    intro a b hab hb e
    have e2 : b = (b - a) + a := by omega
    rw [e2, itN_add] at e
    exact (h.per x hx).2.2.2 (b - a) (by omega) (by omega) (h.itinj a _ _ hx (h.itlt _ _ hx) e).symm
  intro a b ha hb hab e
  rw [List.mem_range] at ha hb
  rcases Nat.lt_or_gt_of_ne hab with hlt | hlt
  · exact key a b hlt hb e
  · exact key b a hlt ha e.symm
/-- the smallest of its cycle -/
def minN (n : Nat) (f : Nat → Nat) (x : Nat) : Bool := (orbN n f x).all fun y => decide (x ≤ y)
theorem minN_iff (x : Nat) : minN n f x = true ↔ ∀ y ∈ orbN n f x, x ≤ y := by simp [minN]
def cycN (n : Nat) (f : Nat → Nat) : List (List Nat) := ((List.range n).filter (minN n f)).map (orbN n f)
theorem PermF.minrep (h : PermF n f) (x : Nat) (hx : x < n) : ∃ z, z ≤ x ∧ minN n f z = true ∧ x ∈ orbN n f z := by
  -- the smallest of the orbit
  induction x using Nat.strongRecOn with
  | ind x ih =>
    by_cases hm : minN n f x = true
    · exact ⟨x, Nat.le_refl _, hm, h.orb_self x hx⟩
    · rw [minN_iff] at hm
      have : ∃ y, y ∈ orbN n f x ∧ y < x := by
        apply Classical.byContradiction
        intro hno
        exact hm fun y hy => Nat.le_of_not_lt fun hlt => hno ⟨y, hy, hlt⟩
      obtain ⟨y, hy, hlt⟩ := this
      obtain ⟨z, h1, h2, h3⟩ := ih y hlt (by omega)
      exact ⟨z, by omega, h2, h.orb_trans z y x (by omega) h3 (h.orb_symm x hx y hy)⟩
theorem PermF.cyc_flat (h : PermF n f) : (cycN n f).flatten.length = n := by
  have hmem : ∀ y, y ∈ (cycN n f).flatten ↔ y < n := by
    intro y
    simp only [List.mem_flatten, cycN, List.mem_map, List.mem_filter, List.mem_range]
    constructor
    · rintro ⟨l, ⟨x, ⟨hx, _⟩, rfl⟩, hy⟩; exact h.orb_lt x hx y hy
    · intro hy
      obtain ⟨z, h1, h2, h3⟩ := h.minrep y hy
      exact ⟨_, ⟨z, ⟨by omega, h2⟩, rfl⟩, h3⟩
  have hnd : (cycN n f).flatten.Nodup := by
    rw [List.Nodup, List.pairwise_flatten]
    constructor
    · intro l hl
      obtain ⟨x, hx, rfl⟩ := List.mem_map.1 hl
      exact h.orb_nodup x (List.mem_range.1 (List.mem_filter.1 hx).1)
    · unfold cycN
      rw [List.pairwise_map]
      refine List.Pairwise.imp_of_mem ?_ ((List.nodup_range (n := n)).filter (minN n f))
      intro a b ha hb hab y hy z hz e
      subst e
      rw [List.mem_filter, List.mem_range] at ha hb
      have h1 := h.orb_trans a y b ha.1 hy (h.orb_symm b hb.1 y hz)
      have h2 := h.orb_symm a ha.1 b h1
      have := (minN_iff a).1 ha.2 b h1
      have := (minN_iff b).1 hb.2 a h2
      exact hab (by omega)
  have a1 := len_le_of_sub _ (List.range n) hnd fun y hy => List.mem_range.2 ((hmem y).1 hy)
  have a2 := len_le_of_sub (List.range n) _ List.nodup_range fun y hy => (hmem y).2 (List.mem_range.1 hy)
  rw [List.length_range] at a1 a2
  omega
/-- how many of the cycles have an even number of points, and what is left of the points -/
theorem even_count : ∀ (L : List (List Nat)), (∀ l ∈ L, 1 ≤ l.length) → L.length ≤ L.flatten.length ∧ ((L.filter fun l => l.length % 2 == 0).length) % 2 = (L.flatten.length - L.length) % 2
  | [], _ => by simp
  | l :: L, h => by
    obtain ⟨h1, h2⟩ := even_count L fun x hx => h x (by simp [hx])
    have hl := h l (by simp)
    rw [List.flatten_cons, List.length_append, List.length_cons, List.filter_cons]
    refine ⟨by omega, ?_⟩
    by_cases e : l.length % 2 = 0
    · simp only [e, beq_self_eq_true, if_true, List.length_cons]; omega
    · have : (l.length % 2 == 0) = false := by simpa using e
      simp only [this, Bool.false_eq_true, if_false]; omega
end
def fOf (p : List Int) : Nat → Nat := fun x => (p.getD x 0).toNat
theorem permF_of {p : List Int} (h : isPerm p) : PermF p.length (fOf p) :=
  ⟨fun x hx => by have := perm_get h hx; unfold fOf; omega, fun x y hx hy e => perm_inj h hx hy (by have := perm_get h hx; have := perm_get h hy; unfold fOf at e; omega)⟩
theorem p_it {p : List Int} (h : isPerm p) {x : Nat} (hx : x < p.length) (k : Nat) : p.getD (itN (fOf p) k x) 0 = ((itN (fOf p) (k + 1) x : Nat) : Int) := by
  have := perm_get h ((permF_of h).itlt k x hx)
  rw [itN, fOf]; omega
def orbI (p : List Int) (x : Nat) : List Int := (orbN p.length (fOf p) x).map fun (y : Nat) => (y : Int)
theorem orbI_eq (p : List Int) (x : Nat) : orbI p x = (List.range (perN p.length (fOf p) x)).map fun i => ((itN (fOf p) i x : Nat) : Int) := by
  rw [orbI, orbN, List.map_map]; rfl
theorem orbI_len (p : List Int) (x : Nat) : (orbI p x).length = perN p.length (fOf p) x := by rw [orbI_eq]; simp
def minI (p : List Int) (x : Nat) : Bool := minN p.length (fOf p) x
/-- the cycles of a permutation, fixed points included, by their smallest points -/
def cycI (p : List Int) : List (List Int) := ((List.range p.length).filter (minI p)).map (orbI p)
theorem cycI_eq (p : List Int) : cycI p = (cycN p.length (fOf p)).map fun l => l.map fun (y : Nat) => (y : Int) := by
  rw [cycI, cycN, List.map_map]; rfl
def sgnI (p : List Int) : Int := if (p.length - (cycI p).length) % 2 = 1 then -1 else 1
theorem cyc_facts {p : List Int} (h : isPerm p) : (cycI p).length ≤ p.length ∧ (∀ l ∈ cycI p, 1 ≤ l.length ∧ l.length ≤ p.length) ∧ ((cycI p).filter fun l => l.length % 2 == 0).length % 2 = (p.length - (cycI p).length) % 2 := by
  have hp := permF_of h
  have hl : ∀ l ∈ cycN p.length (fOf p), 1 ≤ l.length ∧ l.length ≤ p.length := by
    intro l hl
    obtain ⟨x, hx, rfl⟩ := List.mem_map.1 hl
    have hx' := List.mem_range.1 (List.mem_filter.1 hx).1
    rw [orbN_len]
    have := hp.per x hx'; omega
  obtain ⟨h1, h2⟩ := even_count (cycN p.length (fOf p)) fun l hm => (hl l hm).1
  rw [hp.cyc_flat] at h1 h2
  refine ⟨by rw [cycI_eq, List.length_map]; exact h1, fun l hm => ?_, ?_⟩
  · rw [cycI_eq] at hm
    obtain ⟨l', hl', rfl⟩ := List.mem_map.1 hm
    rw [List.length_map]; exact hl l' hl'
  · have e : ((cycI p).filter fun l => l.length % 2 == 0).length = ((cycN p.length (fOf p)).filter fun l => l.length % 2 == 0).length := by
      rw [cycI_eq, List.filter_map, List.length_map]
      congr 1
      apply List.filter_congr; intro l _; simp
    rw [e, cycI_eq, List.length_map]; exact h2
instance : Thing Bool := ⟨⟩
theorem repB (n : Nat) (x : Bool) : List.replicate n (AV.v (.bool x)) = (List.replicate n x).map AV.bl := by simp
/-- which points lie on the cycles of those below i, or among the first j of i's own -/
def seenB (p : List Int) (i y : Nat) : Bool := (List.range i).any fun z => decide (y ∈ orbN p.length (fOf p) z)
def seenJ (p : List Int) (i j : Nat) : List Bool := (List.range p.length).map fun y => seenB p i y || decide (y ∈ (orbN p.length (fOf p) i).take j)
theorem seenJ_len (p : List Int) (i j : Nat) : (seenJ p i j).length = p.length := by simp [seenJ]
theorem seenJ_get (p : List Int) (i j y : Nat) (h : y < p.length) : (seenJ p i j).getD y default = (seenB p i y || decide (y ∈ (orbN p.length (fOf p) i).take j)) := range_map_get _ _ _ _ h
theorem seenB_iff (p : List Int) (i y : Nat) : seenB p i y = true ↔ ∃ z, z < i ∧ y ∈ orbN p.length (fOf p) z := by
  simp [seenB, List.any_eq_true]
section
variable {p : List Int} (hp : isPerm p)
include hp
theorem seen_min {i : Nat} (hi : i < p.length) (hm : minI p i = true) (j : Nat) : seenB p i (itN (fOf p) j i) = false := by
  have hF := permF_of hp
  rw [← Bool.not_eq_true, seenB_iff]
  rintro ⟨z, hz, hy⟩
  have h1 := hF.orb_symm z (by omega) _ hy
  have h2 : itN (fOf p) j i ∈ orbN p.length (fOf p) i := (hF.mem_orb i hi _).2 ⟨j, rfl⟩
  have h3 := hF.orb_trans i _ z hi h2 h1
  have := (minN_iff i).1 hm z h3
  omega
theorem seen_not {i : Nat} (hi : i < p.length) (hm : minI p i = false) : ∃ z, z < i ∧ i ∈ orbN p.length (fOf p) z := by
  have hF := permF_of hp
  obtain ⟨z, h1, h2, h3⟩ := hF.minrep i hi
  refine ⟨z, ?_, h3⟩
  apply Classical.byContradiction
  intro h
  have : z = i := by omega
  subst this
  rw [minI, h2] at hm; cases hm
theorem seen_next_min {i : Nat} (hi : i < p.length) : seenJ p i (perN p.length (fOf p) i) = seenJ p (i + 1) 0 := by
  have _ := permF_of hp
  unfold seenJ
  apply List.map_congr_left
  intro y _
  rw [List.take_of_length_le (by rw [orbN_len]; exact Nat.le_refl _)]
  simp only [List.take_zero, List.not_mem_nil, decide_false, Bool.or_false]
  unfold seenB
  rw [List.range_succ, List.any_append]; simp
theorem seen_next_not {i : Nat} (hi : i < p.length) (hm : minI p i = false) : seenJ p i 0 = seenJ p (i + 1) 0 := by
  have hF := permF_of hp
  unfold seenJ
  apply List.map_congr_left
  intro y _
  simp only [List.take_zero, List.not_mem_nil, decide_false, Bool.or_false]
  rw [Bool.eq_iff_iff, seenB_iff, seenB_iff]
  constructor
  · rintro ⟨z, h1, h2⟩; exact ⟨z, by omega, h2⟩
  · rintro ⟨z, h1, h2⟩
    by_cases e : z = i
    · subst e
      obtain ⟨w, hw, hiw⟩ := seen_not hp hi hm
      exact ⟨w, hw, hF.orb_trans w z y (by omega) hiw h2⟩
    · exact ⟨z, by omega, h2⟩
theorem orb_take_get {i : Nat} (hi : i < p.length) {j : Nat} (hj : j < perN p.length (fOf p) i) : (orbN p.length (fOf p) i).take (j + 1) = (orbN p.length (fOf p) i).take j ++ [itN (fOf p) j i] := by
  have _ := permF_of hp
  rw [take_succ_eq _ j 0 (by rw [orbN_len]; exact hj), orbN, range_map_get _ _ _ _ hj]
theorem seen_fresh {i : Nat} (hi : i < p.length) (hm : minI p i = true) {j : Nat} (hj : j < perN p.length (fOf p) i) : (seenJ p i j).getD (itN (fOf p) j i) default = false := by
  have hF := permF_of hp
  rw [seenJ_get _ _ _ _ (hF.itlt j i hi), seen_min hp hi hm j, Bool.false_or]
  simp only [decide_eq_false_iff_not]
  intro h
  have hn := hF.orb_nodup i hi
  have h2 : ((orbN p.length (fOf p) i).take (j + 1)).Nodup := hn.sublist (List.take_sublist _ _)
  rw [orb_take_get hp hi hj, List.nodup_append] at h2
  exact h2.2.2 _ h _ (by simp) rfl
theorem seen_set {i : Nat} (hi : i < p.length) {j : Nat} (hj : j < perN p.length (fOf p) i) : (seenJ p i j).set (itN (fOf p) j i) true = seenJ p i (j + 1) := by
  have hF := permF_of hp
  have hl := hF.itlt j i hi
  refine ext_getD default (by rw [List.length_set, seenJ_len, seenJ_len]) fun y hy => ?_
  rw [List.length_set, seenJ_len] at hy
  rw [seenJ_get _ _ _ _ hy, orb_take_get hp hi hj]
  by_cases e : itN (fOf p) j i = y
  · subst e; rw [getD_set_same _ _ _ _ (by rw [seenJ_len]; exact hl)]; simp
  · rw [getD_set_ne _ _ _ _ _ e, seenJ_get _ _ _ _ hy]
    have : ¬ y = itN (fOf p) j i := fun q => e q.symm
    simp [this]
theorem seen_end {i : Nat} (hi : i < p.length) : (seenJ p i (perN p.length (fOf p) i)).getD i default = true := by
  rw [seenJ_get _ _ _ _ hi, List.take_of_length_le (by rw [orbN_len]; exact Nat.le_refl _)]
  simp [(permF_of hp).orb_self i hi]
theorem seen_old {i : Nat} (hi : i < p.length) (hm : minI p i = false) : (seenJ p i 0).getD i default = true := by
  rw [seenJ_get _ _ _ _ hi, (seenB_iff p i i).2 (seen_not hp hi hm)]; rfl
end
theorem seenJ_zero (p : List Int) : seenJ p 0 0 = List.replicate p.length false := by
  refine ext_getD default (by rw [seenJ_len]; simp) fun y hy => ?_
  rw [seenJ_len] at hy
  rw [seenJ_get _ _ _ _ hy]
  simp [seenB, List.getD, hy]
end Go.AM

/-
  CONTRACTS of functions of the program, and what they compute, by content.
-/
import Derived.Test.YtbhaeaehgmpfhaaCU0
set_option linter.unusedVariables false
set_option linter.unusedSimpArgs false
namespace Go.AM
/-! permutations, plainly -/
def isPerm (p : List Int) : Prop := (1 ≤ p.length ∧ p.length ≤ 20) ∧ (∀ x ∈ p, 0 ≤ x ∧ x < p.length) ∧ p.Nodup
instance (p : List Int) : Decidable (isPerm p) := by unfold isPerm; infer_instance
theorem len_le_of_sub {α : Type} [DecidableEq α] : ∀ (a b : List α), a.Nodup → (∀ x ∈ a, x ∈ b) → a.length ≤ b.length
  | [], _, _, _ => Nat.zero_le _
  | x :: a, b, hn, hs => by
    have hx := hs x (by simp)
    have h1 := len_le_of_sub a (b.erase x) (List.nodup_cons.1 hn).2 fun y hy => (List.mem_erase_of_ne (by rintro rfl; exact (List.nodup_cons.1 hn).1 hy)).2 (hs y (by simp [hy]))
    rw [List.length_erase_of_mem hx] at h1
    have : 0 < b.length := List.length_pos_of_mem hx
    simp; omega
theorem dup_of_not_nodup {α : Type} [DecidableEq α] : ∀ (p : List α), ¬ p.Nodup → ∃ x, x ∈ p.erase x
  | [], h => (h List.nodup_nil).elim
  | a :: r, h => by
    by_cases ha : a ∈ r
    · exact ⟨a, by simpa using ha⟩
    · obtain ⟨x, hx⟩ := dup_of_not_nodup r fun q => h (List.nodup_cons.2 ⟨ha, q⟩)
      refine ⟨x, ?_⟩
      have : x ≠ a := by rintro rfl; exact ha (List.mem_of_mem_erase hx)
      rw [List.erase_cons, if_neg (by simpa using fun e => this e.symm)]
      simp [hx]
/-- among n numbers below n: none twice iff each once -/
theorem nodup_iff_all (p : List Nat) (n : Nat) (hl : p.length = n) (hlt : ∀ x ∈ p, x < n) : p.Nodup ↔ ∀ i, i < n → i ∈ p := by
  constructor
  · intro hn i hi
    apply Decidable.byContradiction
    intro hni
    have := len_le_of_sub p ((List.range n).erase i) hn fun x hx => (List.mem_erase_of_ne (by rintro rfl; exact hni hx)).2 (List.mem_range.2 (hlt x hx))
    rw [List.length_erase_of_mem (List.mem_range.2 hi), List.length_range] at this
    omega
  · intro h
    apply Decidable.byContradiction
    intro hn
    obtain ⟨x, hx⟩ := dup_of_not_nodup p hn
    have hxp := List.mem_of_mem_erase hx
    have := len_le_of_sub (List.range n) (p.erase x) List.nodup_range fun y hy => by
      by_cases e : y = x
      · subst e; exact hx
      · exact (List.mem_erase_of_ne e).2 (h y (List.mem_range.1 hy))
    rw [List.length_erase_of_mem hxp, List.length_range] at this
    have := List.length_pos_of_mem hxp
    omega
/-- the bits of the numbers of a list -/
def maskN : List Nat → Nat
  | [] => 0
  | x :: r => (2 ^ x) ||| maskN r
theorem maskN_bit (l : List Nat) (i : Nat) : (maskN l).testBit i = true ↔ i ∈ l := by
  induction l with
  | nil => simp [maskN]
  | cons x r ih => rw [maskN, Nat.testBit_or, Bool.or_eq_true, ih, Nat.testBit_two_pow]; simp [eq_comm]
theorem maskN_snoc (l : List Nat) (x : Nat) : maskN (l ++ [x]) = maskN l ||| 2 ^ x := by
  apply Nat.eq_of_testBit_eq; intro i
  rw [Bool.eq_iff_iff, Nat.testBit_or, Bool.or_eq_true, maskN_bit, maskN_bit, Nat.testBit_two_pow]; simp [eq_comm]
theorem maskN_lt (l : List Nat) (n : Nat) (h : ∀ x ∈ l, x < n) : maskN l < 2 ^ n := by
  induction l with
  | nil => simp [maskN]; exact Nat.pow_pos (by decide)
  | cons x r ih => exact Nat.or_lt_two_pow (Nat.pow_lt_pow_right (by decide) (h x (by simp))) (ih fun y hy => h y (by simp [hy]))
theorem maskN_full (l : List Nat) (n : Nat) (h : ∀ x ∈ l, x < n) : maskN l = 2 ^ n - 1 ↔ ∀ i, i < n → i ∈ l := by
  constructor
  · intro e i hi
    rw [← maskN_bit, e, Nat.testBit_two_pow_sub_one]; simpa using hi
  · intro q
    apply Nat.eq_of_testBit_eq; intro i
    rw [Bool.eq_iff_iff, maskN_bit, Nat.testBit_two_pow_sub_one, decide_eq_true_iff]
    exact ⟨fun hi => h i hi, q i⟩
def mask (p : List Int) : Nat := maskN (p.map Int.toNat)
theorem mask_snoc (l : List Int) (x : Int) : mask (l ++ [x]) = mask l ||| 2 ^ x.toNat := by simp [mask, maskN_snoc]
theorem mask_perm (p : List Int) (h : ∀ x ∈ p, 0 ≤ x ∧ x < p.length) : mask p = 2 ^ p.length - 1 ↔ p.Nodup := by
  have hlt : ∀ x ∈ p.map Int.toNat, x < p.length := by
    intro x hx
    obtain ⟨y, hy, rfl⟩ := List.mem_map.1 hx
    have := h y hy; omega
  rw [mask, maskN_full _ _ hlt, ← nodup_iff_all _ _ (by simp) hlt, List.Nodup, List.Nodup, List.pairwise_map]
  constructor
  · intro q; exact q.imp fun hab e => hab (by rw [e])
  · intro q
    refine (List.Pairwise.imp_of_mem ?_ q)
    intro a b ha hb hab e
    have := h a ha; have := h b hb; exact hab (by omega)
theorem mask_lt (p : List Int) (n : Nat) (h : ∀ x ∈ p, 0 ≤ x ∧ x < n) : mask p < 2 ^ n := by
  apply maskN_lt
  intro x hx
  obtain ⟨y, hy, rfl⟩ := List.mem_map.1 hx
  have := h y hy; omega
theorem bits_or (a b : Nat) (ha : a < 2 ^ 62) (hb : b < 2 ^ 62) : bitsI .or .i64 (a : Int) (b : Int) = ((a ||| b : Nat) : Int) := by
  have h1 : a ||| b < 2 ^ 62 := Nat.or_lt_two_pow ha hb
  have e1 : (BitVec.ofInt 64 (a : Int)).toNat = a := by rw [BitVec.toNat_ofInt]; omega
  have e2 : (BitVec.ofInt 64 (b : Int)).toNat = b := by rw [BitVec.toNat_ofInt]; omega
  show IntKind.i64.wrap ((BitVec.ofInt 64 (a : Int) ||| BitVec.ofInt 64 (b : Int)).toNat : Int) = _
  rw [BitVec.toNat_or, e1, e2]
  apply wrap64_id; omega
end Go.AM

/-
  CONTRACTS of functions of the program, and what they compute, by content.
-/
import Derived.Test.YtbhaeaehgmpfhaaCP9
set_option linter.unusedVariables false
set_option linter.unusedSimpArgs false
namespace Go.AM
def moveOk (n : Int) (s : List Int) : Prop := (s.length : Int) = n ∧ isPerm s
instance (n : Int) (s : List Int) : Decidable (moveOk n s) := by unfold moveOk; infer_instance
def genOk (n : Int) (mv : List (List Int)) : Prop := (1 ≤ n ∧ n ≤ 20) ∧ mv.length ≤ 8 ∧ ∀ s ∈ mv, moveOk n s
instance (n : Int) (mv : List (List Int)) : Decidable (genOk n mv) := by unfold genOk; infer_instance
def puzzOk (p : Puzz) : Prop := genOk p.n p.mv ∧ namesOk p.nm ∧ p.nm.length = p.mv.length
instance (p : Puzz) : Decidable (puzzOk p) := by unfold puzzOk; infer_instance
def letOk (n : Int) (x : Int) : Prop := x ≠ 0 ∧ (-8 ≤ x ∧ x ≤ 8) ∧ x ≤ n ∧ -x ≤ n
instance (n x : Int) : Decidable (letOk n x) := by unfold letOk; infer_instance
def wordOk (n : Int) (w : List Int) : Prop := w.length ≤ 200 ∧ ∀ x ∈ w, letOk n x
instance (n : Int) (w : List Int) : Decidable (wordOk n w) := by unfold wordOk; infer_instance
def nameAt (l : List UInt8) (i : Nat) : Prop := (65 ≤ (l.getD i 0).toNat ∧ (l.getD i 0).toNat ≤ 90) ∧ ∀ y ∈ l.take i, y ≠ l.getD i 0
instance (l : List UInt8) (i : Nat) : Decidable (nameAt l i) := by unfold nameAt; infer_instance
theorem letters_take (l : List UInt8) (i : Nat) (h : i < l.length) : lettersOk (l.take (i + 1)) ↔ lettersOk (l.take i) ∧ nameAt l i := by
  rw [take_succ_eq l i 0 h]
  unfold lettersOk nameAt
  rw [List.nodup_append]
  constructor
  · rintro ⟨h1, h2, _, h3⟩
    exact ⟨⟨fun b hb => h1 b (by simp [hb]), h2⟩, h1 _ (by simp), fun y hy => h3 y hy _ (by simp)⟩
  · rintro ⟨⟨h1, h2⟩, h3, h4⟩
    refine ⟨fun b hb => ?_, h2, by simp, fun a ha b hb => ?_⟩
    · rcases List.mem_append.1 hb with hb | hb
      · exact h1 b hb
      · rw [List.mem_singleton.1 hb]; exact h3
    · rw [List.mem_singleton.1 hb]; exact h4 a ha
theorem letters_mono {l : List UInt8} (h : lettersOk l) (i : Nat) : lettersOk (l.take i) :=
  ⟨fun b hb => h.1 b (List.mem_of_mem_take hb), h.2.sublist (List.take_sublist i l)⟩
theorem puzz_nm {p : Puzz} (h : puzzOk p) : 1 ≤ p.mv.length ∧ p.mv.length ≤ 8 := by have := h.2.1.2; have := h.2.2; omega
theorem letOk_iff {n : Int} (x : Int) (h : 0 ≤ n) : letOk n x ↔ x ≠ 0 ∧ -(if (8:Int) < n then 8 else n) ≤ x ∧ x ≤ (if (8:Int) < n then 8 else n) := by
  unfold letOk
  split <;> (constructor <;> intro q <;> omega)
def sameI (a b : Int) : Prop := a = b ∨ a = -b
instance (a b : Int) : Decidable (sameI a b) := by unfold sameI; infer_instance
def genI (x : Int) : Int := if x < 0 then -x - 1 else x - 1
def runsK (w : List Int) : Nat → List (List Int)
  | 0 => []
  | k + 1 => if 0 < k ∧ sameI (w.getD (k - 1) 0) (w.getD k 0) then (runsK w k).set ((runsK w k).length - 1) ((runsK w k).getD ((runsK w k).length - 1) default ++ [w.getD k 0]) else runsK w k ++ [[w.getD k 0]]
def scrOk (p : Puzz) (w : List Int) : Prop := puzzOk p ∧ wordOk p.mv.length w ∧ (p.mv.length = 1 ∨ ∀ i, 0 < i → i < w.length → ¬ sameI (w.getD (i - 1) 0) (w.getD i 0))
instance (p : Puzz) (w : List Int) : Decidable (scrOk p w) := by
  unfold scrOk
  have : Decidable (∀ i, 0 < i → i < w.length → ¬ sameI (w.getD (i - 1) 0) (w.getD i 0)) := decidable_of_iff (∀ i, i < w.length → 0 < i → ¬ sameI (w.getD (i - 1) 0) (w.getD i 0)) ⟨fun h i a b => h i b a, fun h i a b => h i b a⟩
  infer_instance
end Go.AM

/-
  CONTRACTS of functions of the program, and what they compute, by content.
-/
import Derived.Test.YtbhaeaehgmpfhaaCP4
set_option linter.unusedVariables false
set_option linter.unusedSimpArgs false
namespace Go.AM
/-! sizes of moves -/
def sizeLL (l : List (List Twist)) : Nat := match l with | [] => 0 | a :: r => 1 + sizeL a + sizeLL r
theorem sizeLL_append : ∀ a b : List (List Twist), sizeLL (a ++ b) = sizeLL a + sizeLL b
  | [], b => by simp [sizeLL]
  | x :: r, b => by simp only [List.cons_append, sizeLL, sizeLL_append r b]; omega
theorem sizeLL_take (l : List (List Twist)) (i : Nat) (h : i < l.length) : sizeLL (l.take (i + 1)) = sizeLL (l.take i) + 1 + sizeL (l.getD i default) := by
  rw [take_succ_eq l i default h, sizeLL_append]; simp [sizeLL]; omega
theorem sizeLL_le (l : List (List Twist)) (i : Nat) : sizeLL (l.take i) ≤ sizeLL l := by
  have := sizeLL_append (l.take i) (l.drop i)
  rw [List.take_append_drop] at this
  omega
theorem sizeLL_len : ∀ l : List (List Twist), l.length ≤ sizeLL l
  | [] => by simp [sizeLL]
  | a :: r => by have := sizeLL_len r; simp only [sizeLL, List.length_cons]; omega
theorem sizeLL_take_ge (l : List (List Twist)) (i : Nat) (h : i ≤ l.length) : i ≤ sizeLL (l.take i) := by
  have := sizeLL_len (l.take i); rw [List.length_take] at this; omega
theorem sizeLL_mem : ∀ {l : List (List Twist)} {a : List Twist}, a ∈ l → sizeL a ≤ sizeLL l
  | b :: r, a, h => by
    rcases List.mem_cons.1 h with rfl | h
    · simp only [sizeLL]; omega
    · have := sizeLL_mem h; simp only [sizeLL]; omega
theorem cnts_LL : ∀ l : List (List Twist), cnts l ≤ sizeLL l
  | [] => by simp [cnts]
  | a :: r => by
    have := cnts_LL r
    have e : Mk.cnt a = cnts a := rfl
    simp only [cnts, sizeLL, e, sizeL]; omega
end Go.AM

/-
  CONTRACTS of functions of the program, and what they compute, by content.
-/
import Derived.Test.YtbhaeaehgmpfhaaCP6
set_option linter.unusedVariables false
set_option linter.unusedSimpArgs false
namespace Go.AM
/-! puzzles, plainly -/
def sizeI (l : List (List Int)) : Nat := match l with | [] => 0 | a :: r => 1 + a.length + sizeI r
theorem sizeI_append : ∀ a b : List (List Int), sizeI (a ++ b) = sizeI a + sizeI b
  | [], b => by simp [sizeI]
  | x :: r, b => by simp only [List.cons_append, sizeI, sizeI_append r b]; omega
theorem sizeI_take (l : List (List Int)) (i : Nat) (h : i < l.length) : sizeI (l.take (i + 1)) = sizeI (l.take i) + 1 + (l.getD i default).length := by
  rw [take_succ_eq l i default h, sizeI_append]; simp [sizeI]; omega
theorem sizeI_len : ∀ l : List (List Int), l.length ≤ sizeI l
  | [] => by simp [sizeI]
  | a :: r => by have := sizeI_len r; simp only [sizeI, List.length_cons]; omega
theorem sizeI_split (l : List (List Int)) (i : Nat) : sizeI l = sizeI (l.take i) + sizeI (l.drop i) := by
  have := sizeI_append (l.take i) (l.drop i)
  rwa [List.take_append_drop] at this
theorem sizeI_ge (l : List (List Int)) (i : Nat) (h : i ≤ l.length) : sizeI (l.take i) + l.length ≤ sizeI l + i ∧ i ≤ sizeI (l.take i) := by
  have h1 := sizeI_split l i
  have h2 := sizeI_len (l.drop i)
  have h3 := sizeI_len (l.take i)
  rw [List.length_drop] at h2
  rw [List.length_take] at h3
  omega
theorem sizeI_mem : ∀ {l : List (List Int)} {a : List Int}, a ∈ l → a.length < sizeI l
  | b :: r, a, h => by
    rcases List.mem_cons.1 h with rfl | h
    · simp only [sizeI]; omega
    · have := sizeI_mem h; simp only [sizeI]; omega
structure Puzz where
  n : Int
  nm : List UInt8
  mv : List (List Int)
  deriving DecidableEq
def Puzz.sl (p : Puzz) : AV := .agg [.i64 p.n, .st p.nm, ssl p.mv]
def Puzz.tr (p : Puzz) : AV := .agg [.i64 p.n, .st p.nm, sst p.mv]
end Go.AM

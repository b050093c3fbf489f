/-
  CONTRACTS of functions of the program: what each computes, by content.
-/
import Derived.Test.YtjlnccjhgngnoaaRandB
set_option linter.unusedVariables false
set_option linter.unusedSimpArgs false
namespace Go.AM
open Go.Proofs
def ints (l : List Int) : List AV := l.map AV.i64
theorem ints_len (l : List Int) : (ints l).length = l.length := by simp [ints]
theorem ints_get (l : List Int) (j : Nat) (h : j < l.length) : (ints l).getD j .any = .i64 (l[j]) := by simp [ints, List.getD, h]
theorem take_eq_take {α : Type} {a b : List α} (k : Nat) (hk : k < a.length) (hk' : k < b.length) : a.take (k + 1) = b.take (k + 1) ↔ a.take k = b.take k ∧ a[k] = b[k] := by
  rw [List.take_succ_eq_append_getElem hk, List.take_succ_eq_append_getElem hk']
  constructor
  · intro h
    obtain ⟨h1, h2⟩ := List.append_inj h (by simp; omega)
    exact ⟨h1, by simpa using h2⟩
  · rintro ⟨h1, h2⟩; rw [h1, h2]
set_option maxHeartbeats 1000000 in
theorem f26 (a b : List Int) (ha : a.length ≤ 1099511627776) : SpecAt Try.prog 26 [.sl 1 (ints a), .sl 1 (ints b)] (.bl (decide (a = b))) := by
  refine spec_of_awp (M := MM) (np := 2) (fz := true) mixed Try.func26 rfl rfl (by decide) rfl (Nat.le_refl _) (by decide +kernel) (.inr ⟨rfl, rfl⟩) trivial ?_
  simp -dsimp -implicitDefEqProofs (disch := omega) only [↓amPre, amPost0, amPost1, amPost2, amPost3, ↓reduceIte, reduceCtorEq, Nat.reduceEqDiff, Nat.reduceBEq, Nat.reduceAdd, Nat.reduceLeDiff, Nat.reduceSub, Nat.reduceMul, tyF, MM, ints_len]
  refine ifP_mk ?_ ?_ <;> intro h1
  · simp -dsimp -implicitDefEqProofs (disch := omega) only [↓amPre, amPost0, amPost1, amPost2, amPost3, ↓reduceIte, reduceCtorEq, Nat.reduceEqDiff, Nat.reduceBEq, Nat.reduceAdd, Nat.reduceLeDiff, Nat.reduceSub, Nat.reduceMul, tyF, MM, h1]
    have : ¬ a = b := by intro e; subst e; simp at h1
    simp [this]
  simp -dsimp -implicitDefEqProofs (disch := omega) only [↓amPre, amPost0, amPost1, amPost2, amPost3, ↓reduceIte, reduceCtorEq, Nat.reduceEqDiff, Nat.reduceBEq, Nat.reduceAdd, Nat.reduceLeDiff, Nat.reduceSub, Nat.reduceMul, tyF, MM, h1]
  have hab : a.length = b.length := by simp at h1; omega
  refine awp_loop (fun k st => k ≤ a.length ∧ st.fr 5 = .i64 k ∧ st.fr 0 = .sl 1 (ints a) ∧ st.fr 1 = .sl 1 (ints b) ∧ a.take k = b.take k) a.length ?_ ?_
  · simp -dsimp -implicitDefEqProofs (disch := omega) only [↓amPre, amPost0, amPost1, amPost2, amPost3, ↓reduceIte, reduceCtorEq, Nat.reduceEqDiff, Nat.reduceBEq, Nat.reduceAdd, Nat.reduceLeDiff, Nat.reduceSub, Nat.reduceMul, tyF, MM]
    exact ⟨Nat.zero_le _, rfl⟩
  rintro k st _ ⟨hk, h5, h0, h1, he⟩
  by_cases hlt : k < a.length
  · have hltb : k < b.length := by omega
    have g1 := ints_get a k hlt
    have g2 := ints_get b k hltb
    simp -dsimp -implicitDefEqProofs (disch := omega) only [↓amPre, amPost0, amPost1, amPost2, amPost3, ↓reduceIte, reduceCtorEq, Nat.reduceEqDiff, Nat.reduceBEq, Nat.reduceAdd, Nat.reduceLeDiff, Nat.reduceSub, Nat.reduceMul, tyF, MM, h5, h0, h1, ints_len, g1, g2]
    refine ifP_mk ?_ ?_ <;> intro w1
    · simp -dsimp -implicitDefEqProofs (disch := omega) only [↓amPre, amPost0, amPost1, amPost2, amPost3, ↓reduceIte, reduceCtorEq, Nat.reduceEqDiff, Nat.reduceBEq, Nat.reduceAdd, Nat.reduceLeDiff, Nat.reduceSub, Nat.reduceMul, tyF, MM, h5, h0, h1, w1]
      have hne : ¬ a = b := by
        intro e; subst e; simp at w1
      simp [hne]
    · simp -dsimp -implicitDefEqProofs (disch := omega) only [↓amPre, amPost0, amPost1, amPost2, amPost3, ↓reduceIte, reduceCtorEq, Nat.reduceEqDiff, Nat.reduceBEq, Nat.reduceAdd, Nat.reduceLeDiff, Nat.reduceSub, Nat.reduceMul, tyF, MM, h5, h0, h1, w1]
      simp at w1
      exact ⟨hlt, hlt, rfl, (take_eq_take k hlt hltb).2 ⟨he, w1⟩⟩
  · simp -dsimp -implicitDefEqProofs (disch := omega) only [↓amPre, amPost0, amPost1, amPost2, amPost3, ↓reduceIte, reduceCtorEq, Nat.reduceEqDiff, Nat.reduceBEq, Nat.reduceAdd, Nat.reduceLeDiff, Nat.reduceSub, Nat.reduceMul, tyF, MM, h5, h0, h1, ints_len]
    have hke : k = a.length := by omega
    subst hke
    have : a = b := by
      have e1 : a.take a.length = a := List.take_length
      have e2 : b.take a.length = b := by rw [hab]; exact List.take_length
      rw [← e1, ← e2]; exact he
    simp [this]
def marks (k : Int) : Nat → List AV
  | 0 => []
  | n + 1 => .i64 k :: marks (k + 1) n
theorem marks_len (k : Int) (n : Nat) : (marks k n).length = n := by
  induction n generalizing k with
  | zero => rfl
  | succ n ih => simp [marks, ih]
theorem marks_get : ∀ (n : Nat) (k : Int) (i : Nat), i < n → (marks k n).getD i .any = .i64 (k + i)
  | n + 1, k, 0, _ => by simp [marks]
  | n + 1, k, i + 1, h => by
    have := marks_get n (k + 1) i (by omega)
    simp only [marks, List.getD_cons_succ, this]
    simp; omega
set_option maxHeartbeats 1000000 in
theorem f28 (k : Int) (n : Nat) (h0 : 0 ≤ k) (h1 : k ≤ 1099511627776) (hl : n ≤ 1099511627776) : SpecAt Try.prog 28 [.sl 1 (marks k n), .i64 k] (.i64 (k + n)) := by
  refine spec_of_awp (M := MM) (np := 2) (fz := true) mixed Try.func28 rfl rfl (by decide) rfl (Nat.le_refl _) (by decide +kernel) (.inr ⟨rfl, rfl⟩) trivial ?_
  simp -dsimp -implicitDefEqProofs (disch := omega) only [↓amPre, amPost0, amPost1, amPost2, amPost3, ↓reduceIte, reduceCtorEq, Nat.reduceEqDiff, Nat.reduceBEq, Nat.reduceAdd, Nat.reduceLeDiff, Nat.reduceSub, Nat.reduceMul, tyF, MM]
  refine awp_loop (fun j st => j ≤ n ∧ st.fr 5 = .i64 j ∧ st.fr 1 = .i64 (k + j) ∧ st.fr 0 = .sl 1 (marks k n)) n ?_ ?_
  · simp -dsimp -implicitDefEqProofs (disch := omega) only [↓amPre, amPost0, amPost1, amPost2, amPost3, ↓reduceIte, reduceCtorEq, Nat.reduceEqDiff, Nat.reduceBEq, Nat.reduceAdd, Nat.reduceLeDiff, Nat.reduceSub, Nat.reduceMul, tyF, MM]
    simp
  rintro j st _ ⟨hj, h5, h1', h0'⟩
  by_cases hlt : j < n
  · have g := marks_get n k j hlt
    simp -dsimp -implicitDefEqProofs (disch := omega) only [↓amPre, amPost0, amPost1, amPost2, amPost3, ↓reduceIte, reduceCtorEq, Nat.reduceEqDiff, Nat.reduceBEq, Nat.reduceAdd, Nat.reduceLeDiff, Nat.reduceSub, Nat.reduceMul, tyF, MM, h5, h1', h0', marks_len, g]
    simp
    refine ⟨hlt, hlt, ?_⟩
    omega
  · have hje : j = n := by omega
    subst hje
    simp -dsimp -implicitDefEqProofs (disch := omega) only [↓amPre, amPost0, amPost1, amPost2, amPost3, ↓reduceIte, reduceCtorEq, Nat.reduceEqDiff, Nat.reduceBEq, Nat.reduceAdd, Nat.reduceLeDiff, Nat.reduceSub, Nat.reduceMul, tyF, MM, h5, h1', h0', marks_len]
end Go.AM

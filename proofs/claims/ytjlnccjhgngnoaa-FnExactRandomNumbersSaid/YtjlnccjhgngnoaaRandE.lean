/-
  CONTRACTS of functions of the program: what each computes, by content.
-/
import Derived.Test.YtjlnccjhgngnoaaRandD
set_option linter.unusedVariables false
set_option linter.unusedSimpArgs false
namespace Go.AM
open Go.Proofs
theorem marks_fz : ∀ (n : Nat) (k : Int), (marks k n).map AV.fz = marks k n
  | 0, _ => rfl
  | n + 1, k => by simp [marks, marks_fz n, fz_v]
def rni (x b : Int) (n : Nat) : List Int := (List.range n).map fun i => (it x (i + 1)).tmod b
theorem rn_ints (x b : Int) (n : Nat) : rn x b n = ints (rni x b n) := by simp [rn, rni, ints]
theorem ints_fz (l : List Int) : (ints l).map AV.fz = ints l := by simp [ints, fz_v]
set_option maxHeartbeats 2000000 in
theorem f6_any (x b c : Int) (l : List Int) (hn : l.length ≤ 200) (s24 : SpecAt Try.prog 24 [.i64 x, .i64 b, .i64 c] (.tr 1 (ints l))) (s25 : SpecAt Try.prog 25 [.i64 x, .i64 b, .i64 c] (.tr 1 (ints l))) : SpecAt Try.prog 6 [.i64 x, .i64 b, .i64 c] (.bl true) := by
  have hil := ints_len l
  refine spec_of_awp (M := MM) (np := 3) (fz := true) mixed Try.func6 rfl rfl (by decide) rfl (Nat.le_refl _) (by decide +kernel) (.inr ⟨rfl, rfl⟩) trivial ?_
  simp -dsimp -implicitDefEqProofs (disch := omega) only [↓amPre, amPost0, amPost1, amPost2, amPost3, ↓reduceIte, reduceCtorEq, Nat.reduceEqDiff, Nat.reduceBEq, Nat.reduceAdd, Nat.reduceLeDiff, Nat.reduceSub, Nat.reduceMul, tyF, MM]
  refine callP_of s24 ?_
  simp -dsimp -implicitDefEqProofs (disch := omega) only [↓amPre, amPost0, amPost1, amPost2, amPost3, ↓reduceIte, reduceCtorEq, Nat.reduceEqDiff, Nat.reduceBEq, Nat.reduceAdd, Nat.reduceLeDiff, Nat.reduceSub, Nat.reduceMul, tyF, MM, hil]
  refine callP_of s25 ?_
  have htk : (ints l).take l.length = ints l := by rw [List.take_of_length_le]; rw [hil]; exact Nat.le_refl _
  have hmk : (marks 1 l.length).take l.length = marks 1 l.length := by rw [List.take_of_length_le]; rw [marks_len]; exact Nat.le_refl _
  have hml := marks_len 1 l.length
  simp -dsimp -implicitDefEqProofs (disch := omega) only [↓amPre, amPost0, amPost1, amPost2, amPost3, ↓reduceIte, reduceCtorEq, Nat.reduceEqDiff, Nat.reduceBEq, Nat.reduceAdd, Nat.reduceLeDiff, Nat.reduceSub, Nat.reduceMul, tyF, MM, hil, ints_fz, htk]
  refine callP_of (f26 l l (by omega)) ?_
  simp -dsimp -implicitDefEqProofs (disch := omega) only [↓amPre, amPost0, amPost1, amPost2, amPost3, ↓reduceIte, reduceCtorEq, Nat.reduceEqDiff, Nat.reduceBEq, Nat.reduceAdd, Nat.reduceLeDiff, Nat.reduceSub, Nat.reduceMul, tyF, MM]
  refine callX_of (markInt64S_spec (ints l) 1 (by omega) (by omega) (by omega)) ?_
  simp -dsimp -implicitDefEqProofs (disch := omega) only [↓amPre, amPost0, amPost1, amPost2, amPost3, ↓reduceIte, reduceCtorEq, Nat.reduceEqDiff, Nat.reduceBEq, Nat.reduceAdd, Nat.reduceLeDiff, Nat.reduceSub, Nat.reduceMul, tyF, MM, hil, marks_len, marks_fz, hmk]
  refine callP_of (f28 1 l.length (by omega) (by omega) (by omega)) ?_
  simp -dsimp -implicitDefEqProofs (disch := omega) only [↓amPre, amPost0, amPost1, amPost2, amPost3, ↓reduceIte, reduceCtorEq, Nat.reduceEqDiff, Nat.reduceBEq, Nat.reduceAdd, Nat.reduceLeDiff, Nat.reduceSub, Nat.reduceMul, tyF, MM, hil, marks_len, marks_fz, hmk]
  refine callP_of s25 ?_
  simp -dsimp -implicitDefEqProofs (disch := omega) only [↓amPre, amPost0, amPost1, amPost2, amPost3, ↓reduceIte, reduceCtorEq, Nat.reduceEqDiff, Nat.reduceBEq, Nat.reduceAdd, Nat.reduceLeDiff, Nat.reduceSub, Nat.reduceMul, tyF, MM, hil, ints_fz, htk, marks_len, marks_fz, hmk]
  refine callP_of (f26 l l (by omega)) ?_
  simp -dsimp -implicitDefEqProofs (disch := omega) only [↓amPre, amPost0, amPost1, amPost2, amPost3, ↓reduceIte, reduceCtorEq, Nat.reduceEqDiff, Nat.reduceBEq, Nat.reduceAdd, Nat.reduceLeDiff, Nat.reduceSub, Nat.reduceMul, tyF, MM, hil, marks_len, marks_fz, hmk]
  refine callP_of (f28 1 l.length (by omega) (by omega) (by omega)) ?_
  simp -dsimp -implicitDefEqProofs (disch := omega) only [↓amPre, amPost0, amPost1, amPost2, amPost3, ↓reduceIte, reduceCtorEq, Nat.reduceEqDiff, Nat.reduceBEq, Nat.reduceAdd, Nat.reduceLeDiff, Nat.reduceSub, Nat.reduceMul, tyF, MM, hil, marks_len, marks_fz, hmk]
theorem f6 (x b c : Int) : SpecAt Try.prog 6 [.i64 x, .i64 b, .i64 c] (.bl true) := by
  cases h : (within x 0 2147483646 && within b 1 2147483647 && within c 0 200) with
  | false => exact f6_any x b c [] (by simp) (f24n x b c h) (f25n x b c h)
  | true =>
    simp only [within, Bool.and_eq_true, decide_eq_true_eq] at h
    obtain ⟨n, rfl⟩ : ∃ n : Nat, c = n := ⟨c.toNat, by omega⟩
    have s24 := f24 x b n (by omega) (by omega) (by omega) (by omega) (by omega)
    have s25 := f25 x b n (by omega) (by omega) (by omega) (by omega) (by omega)
    rw [rn_ints] at s24 s25
    exact f6_any x b n _ (by simp [rni]; omega) s24 s25
end Go.AM

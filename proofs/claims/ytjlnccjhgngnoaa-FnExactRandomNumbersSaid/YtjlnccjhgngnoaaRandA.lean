/-
  CONTRACTS of functions of the program: what each computes, by content.
-/
import Derived.Test.YtjlnccjhgngnoaaM2Facts
set_option linter.unusedVariables false
set_option linter.unusedSimpArgs false
namespace Go.AM
open Go.Proofs
def MM : FuncId → List Bool := fun f => if f = 27 then [true, false] else []
def within (x lo hi : Int) : Bool := decide (lo ≤ x) && decide (x ≤ hi)
theorem inRange_spec (x lo hi : Int) : SpecAt Try.prog 56 [.i64 x, .i64 lo, .i64 hi] (.bl (within x lo hi)) := by
  refine spec_of_awp (M := MM) (np := 3) (fz := true) mixed Try.func56 rfl rfl (by decide) rfl (Nat.le_refl _) (by decide +kernel) (.inr ⟨rfl, rfl⟩) trivial ?_
  simp -dsimp -implicitDefEqProofs (disch := omega) only [↓amPre, amPost0, amPost1, amPost2, amPost3, ↓reduceIte, reduceCtorEq, Nat.reduceEqDiff, Nat.reduceBEq, Nat.reduceAdd, Nat.reduceLeDiff, Nat.reduceSub, Nat.reduceMul, tyF, MM]
  refine ifP_mk ?_ ?_ <;> intro h1
  · simp -dsimp -implicitDefEqProofs (disch := omega) only [↓amPre, amPost0, amPost1, amPost2, amPost3, ↓reduceIte, reduceCtorEq, Nat.reduceEqDiff, Nat.reduceBEq, Nat.reduceAdd, Nat.reduceLeDiff, Nat.reduceSub, Nat.reduceMul, tyF, MM, h1]
    simp [within, h1]
  · simp -dsimp -implicitDefEqProofs (disch := omega) only [↓amPre, amPost0, amPost1, amPost2, amPost3, ↓reduceIte, reduceCtorEq, Nat.reduceEqDiff, Nat.reduceBEq, Nat.reduceAdd, Nat.reduceLeDiff, Nat.reduceSub, Nat.reduceMul, tyF, MM, h1]
    simp [within, h1]
theorem f62 (x : Int) : SpecAt Try.prog 62 [.i64 x] (.bl (within x 0 2147483646)) := by
  refine spec_of_awp (M := MM) (np := 1) (fz := true) mixed Try.func62 rfl rfl (by decide) rfl (Nat.le_refl _) (by decide +kernel) (.inr ⟨rfl, rfl⟩) trivial ?_
  simp -dsimp -implicitDefEqProofs (disch := omega) only [↓amPre, amPost0, amPost1, amPost2, amPost3, ↓reduceIte, reduceCtorEq, Nat.reduceEqDiff, Nat.reduceBEq, Nat.reduceAdd, Nat.reduceLeDiff, Nat.reduceSub, Nat.reduceMul, tyF, MM]
  refine callP_of (inRange_spec _ _ _) ?_
  simp -dsimp -implicitDefEqProofs (disch := omega) only [↓amPre, amPost0, amPost1, amPost2, amPost3, ↓reduceIte, reduceCtorEq, Nat.reduceEqDiff, Nat.reduceBEq, Nat.reduceAdd, Nat.reduceLeDiff, Nat.reduceSub, Nat.reduceMul, tyF, MM]
theorem f63 (x : Int) : SpecAt Try.prog 63 [.i64 x] (.bl (within x 0 200)) := by
  refine spec_of_awp (M := MM) (np := 1) (fz := true) mixed Try.func63 rfl rfl (by decide) rfl (Nat.le_refl _) (by decide +kernel) (.inr ⟨rfl, rfl⟩) trivial ?_
  simp -dsimp -implicitDefEqProofs (disch := omega) only [↓amPre, amPost0, amPost1, amPost2, amPost3, ↓reduceIte, reduceCtorEq, Nat.reduceEqDiff, Nat.reduceBEq, Nat.reduceAdd, Nat.reduceLeDiff, Nat.reduceSub, Nat.reduceMul, tyF, MM]
  refine callP_of (inRange_spec _ _ _) ?_
  simp -dsimp -implicitDefEqProofs (disch := omega) only [↓amPre, amPost0, amPost1, amPost2, amPost3, ↓reduceIte, reduceCtorEq, Nat.reduceEqDiff, Nat.reduceBEq, Nat.reduceAdd, Nat.reduceLeDiff, Nat.reduceSub, Nat.reduceMul, tyF, MM]
def next (x : Int) : Int := (48271 * x + 11).tmod 2147483647
theorem next_ok {x : Int} (h0 : 0 ≤ x) (h1 : x ≤ 2147483646) : 0 ≤ next x ∧ next x ≤ 2147483646 := by
  unfold next
  rw [Int.tmod_eq_emod_of_nonneg (by omega)]; omega
theorem f15 (x : Int) (h0 : 0 ≤ x) (h1 : x ≤ 2147483646) : SpecAt Try.prog 15 [.i64 x] (.i64 (next x)) := by
  refine spec_of_awp (M := MM) (np := 1) (fz := true) mixed Try.func15 rfl rfl (by decide) rfl (Nat.le_refl _) (by decide +kernel) (.inr ⟨rfl, rfl⟩) trivial ?_
  have e : x.tmod 2147483647 = x := by rw [Int.tmod_eq_emod_of_nonneg h0]; omega
  simp -dsimp -implicitDefEqProofs (disch := omega) only [↓amPre, amPost0, amPost1, amPost2, amPost3, ↓reduceIte, reduceCtorEq, Nat.reduceEqDiff, Nat.reduceBEq, Nat.reduceAdd, Nat.reduceLeDiff, Nat.reduceSub, Nat.reduceMul, tyF, MM, e]
  rw [next]
def it (x : Int) : Nat → Int
  | 0 => x
  | n + 1 => next (it x n)
theorem it_ok {x : Int} (h0 : 0 ≤ x) (h1 : x ≤ 2147483646) : ∀ n, 0 ≤ it x n ∧ it x n ≤ 2147483646
  | 0 => ⟨h0, h1⟩
  | n + 1 => next_ok (it_ok h0 h1 n).1 (it_ok h0 h1 n).2
def rn (x b : Int) (n : Nat) : List AV := (List.range n).map fun i => .i64 ((it x (i + 1)).tmod b)
theorem rn_len (x b : Int) (n : Nat) : (rn x b n).length = n := by simp [rn]
theorem rn_succ (x b : Int) (n : Nat) : rn x b n ++ [.i64 ((next (it x n)).tmod b)] = rn x b (n + 1) := by simp [rn, List.range_succ, it]
theorem rn_take (x b : Int) (n : Nat) : (rn x b n).take n = rn x b n := by rw [List.take_of_length_le]; rw [rn_len]; exact Nat.le_refl _
set_option maxHeartbeats 2000000 in
theorem f24 (x b : Int) (n : Nat) (h0 : 0 ≤ x) (h1 : x ≤ 2147483646) (hb : 1 ≤ b) (hb1 : b ≤ 2147483647) (hn : n ≤ 200) : SpecAt Try.prog 24 [.i64 x, .i64 b, .i64 n] (.tr 1 (rn x b n)) := by
  refine spec_of_awp (M := MM) (np := 3) (fz := false) mixed Try.func24 rfl rfl (by decide) rfl (Nat.le_refl _) (by decide +kernel) (.inl rfl) (by first | trivial | simp only [sigsOk_nil, sigsOk_some, sigsOk_none, sig_tr, sig_pt, sig_mt, sig_agg, List.map_cons, List.map_nil, sig1_tr, sig1_pt, sig1_v, and_self, true_and]) ?_
  simp -dsimp -implicitDefEqProofs (disch := omega) only [↓amPre, amPost0, amPost1, amPost2, amPost3, ↓reduceIte, reduceCtorEq, Nat.reduceEqDiff, Nat.reduceBEq, Nat.reduceAdd, Nat.reduceLeDiff, Nat.reduceSub, Nat.reduceMul, tyF, MM]
  refine callP_of (f62 _) ?_
  have w1 : within x 0 2147483646 = true := by simp [within]; omega
  have w2 : within b 1 2147483647 = true := by simp [within]; omega
  have w3 : within n 0 200 = true := by simp [within]; omega
  simp -dsimp -implicitDefEqProofs (disch := omega) only [↓amPre, amPost0, amPost1, amPost2, amPost3, ↓reduceIte, reduceCtorEq, Nat.reduceEqDiff, Nat.reduceBEq, Nat.reduceAdd, Nat.reduceLeDiff, Nat.reduceSub, Nat.reduceMul, tyF, MM, w1]
  refine callP_of (inRange_spec _ _ _) ?_
  simp -dsimp -implicitDefEqProofs (disch := omega) only [↓amPre, amPost0, amPost1, amPost2, amPost3, ↓reduceIte, reduceCtorEq, Nat.reduceEqDiff, Nat.reduceBEq, Nat.reduceAdd, Nat.reduceLeDiff, Nat.reduceSub, Nat.reduceMul, tyF, MM, w2]
  refine callP_of (f63 _) ?_
  simp -dsimp -implicitDefEqProofs (disch := omega) only [↓amPre, amPost0, amPost1, amPost2, amPost3, ↓reduceIte, reduceCtorEq, Nat.reduceEqDiff, Nat.reduceBEq, Nat.reduceAdd, Nat.reduceLeDiff, Nat.reduceSub, Nat.reduceMul, tyF, MM, w3]
  refine awp_loop (fun j st => j ≤ n ∧ st.fr 8 = .i64 (it x j) ∧ st.fr 2 = .i64 (n - j) ∧ st.fr 1 = .i64 b ∧ ∃ s, (s = 9 ∨ s = 36) ∧ st.fr 7 = .ref s [] 1 0 j ∧ st.mem s = some (.tr 1 (rn x b j))) n ?_ ?_
  · simp -dsimp -implicitDefEqProofs (disch := omega) only [↓amPre, amPost0, amPost1, amPost2, amPost3, ↓reduceIte, reduceCtorEq, Nat.reduceEqDiff, Nat.reduceBEq, Nat.reduceAdd, Nat.reduceLeDiff, Nat.reduceSub, Nat.reduceMul, tyF, MM]
    exact ⟨Nat.zero_le _, rfl, by simp, 9, .inl rfl, by simp, by simp [rn]⟩
  rintro j st _ ⟨hj, h8, h2, h1', s, hs, h7, hm⟩
  obtain ⟨i0, i1⟩ := it_ok h0 h1 j
  have hlen := rn_len x b j
  by_cases hlt : j < n
  · have hsu := rn_succ x b j
    have htk := rn_take x b j
    rcases hs with rfl | rfl
    · simp -dsimp -implicitDefEqProofs (disch := omega) only [↓amPre, amPost0, amPost1, amPost2, amPost3, ↓reduceIte, reduceCtorEq, Nat.reduceEqDiff, Nat.reduceBEq, Nat.reduceAdd, Nat.reduceLeDiff, Nat.reduceSub, Nat.reduceMul, tyF, MM, h8, h2, h1', h7, hm, hlen]
      refine callP_of (f15 _ i0 i1) ?_
      simp -dsimp -implicitDefEqProofs (disch := omega) only [↓amPre, amPost0, amPost1, amPost2, amPost3, ↓reduceIte, reduceCtorEq, Nat.reduceEqDiff, Nat.reduceBEq, Nat.reduceAdd, Nat.reduceLeDiff, Nat.reduceSub, Nat.reduceMul, tyF, MM, h8, h2, h1', h7, hm, hlen, htk, hsu]
      exact ⟨hlt, hlt, rfl, by simp; omega, 36, .inr rfl, by simp⟩
    · simp -dsimp -implicitDefEqProofs (disch := omega) only [↓amPre, amPost0, amPost1, amPost2, amPost3, ↓reduceIte, reduceCtorEq, Nat.reduceEqDiff, Nat.reduceBEq, Nat.reduceAdd, Nat.reduceLeDiff, Nat.reduceSub, Nat.reduceMul, tyF, MM, h8, h2, h1', h7, hm, hlen]
      refine callP_of (f15 _ i0 i1) ?_
      simp -dsimp -implicitDefEqProofs (disch := omega) only [↓amPre, amPost0, amPost1, amPost2, amPost3, ↓reduceIte, reduceCtorEq, Nat.reduceEqDiff, Nat.reduceBEq, Nat.reduceAdd, Nat.reduceLeDiff, Nat.reduceSub, Nat.reduceMul, tyF, MM, h8, h2, h1', h7, hm, hlen, htk, hsu]
      exact ⟨hlt, hlt, rfl, by simp; omega, 36, .inr rfl, by simp⟩
  · have hje : j = n := by omega
    subst hje
    rcases hs with rfl | rfl
    · simp -dsimp -implicitDefEqProofs (disch := omega) only [↓amPre, amPost0, amPost1, amPost2, amPost3, ↓reduceIte, reduceCtorEq, Nat.reduceEqDiff, Nat.reduceBEq, Nat.reduceAdd, Nat.reduceLeDiff, Nat.reduceSub, Nat.reduceMul, tyF, MM, h8, h2, h1', h7, hm, hlen, rn_take]
    · simp -dsimp -implicitDefEqProofs (disch := omega) only [↓amPre, amPost0, amPost1, amPost2, amPost3, ↓reduceIte, reduceCtorEq, Nat.reduceEqDiff, Nat.reduceBEq, Nat.reduceAdd, Nat.reduceLeDiff, Nat.reduceSub, Nat.reduceMul, tyF, MM, h8, h2, h1', h7, hm, hlen, rn_take]
end Go.AM

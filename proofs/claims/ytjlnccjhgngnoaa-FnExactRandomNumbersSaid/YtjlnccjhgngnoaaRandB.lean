/-
  CONTRACTS of functions of the program: what each computes, by content.
-/
import Derived.Test.YtjlnccjhgngnoaaRandA
set_option linter.unusedVariables false
set_option linter.unusedSimpArgs false
namespace Go.AM
open Go.Proofs
theorem withinI_spec (x lo hi : Int) : SpecAt Try.prog 58 [.i64 x, .i64 lo, .i64 hi] (.bl (within x lo hi)) := by
  refine spec_of_awp (M := MM) (np := 3) (fz := true) mixed Try.func58 rfl rfl (by decide) rfl (Nat.le_refl _) (by decide +kernel) (.inr ⟨rfl, rfl⟩) trivial ?_
  simp -dsimp -implicitDefEqProofs (disch := omega) only [↓amPre, amPost0, amPost1, amPost2, amPost3, ↓reduceIte, reduceCtorEq, Nat.reduceEqDiff, Nat.reduceBEq, Nat.reduceAdd, Nat.reduceLeDiff, Nat.reduceSub, Nat.reduceMul, tyF, MM]
  refine ifP_mk ?_ ?_ <;> intro h1
  · simp -dsimp -implicitDefEqProofs (disch := omega) only [↓amPre, amPost0, amPost1, amPost2, amPost3, ↓reduceIte, reduceCtorEq, Nat.reduceEqDiff, Nat.reduceBEq, Nat.reduceAdd, Nat.reduceLeDiff, Nat.reduceSub, Nat.reduceMul, tyF, MM, h1]
    simp [within, h1]
  · simp -dsimp -implicitDefEqProofs (disch := omega) only [↓amPre, amPost0, amPost1, amPost2, amPost3, ↓reduceIte, reduceCtorEq, Nat.reduceEqDiff, Nat.reduceBEq, Nat.reduceAdd, Nat.reduceLeDiff, Nat.reduceSub, Nat.reduceMul, tyF, MM, h1]
    simp [within, h1]
theorem f64 (x : Int) : SpecAt Try.prog 64 [.i64 x] (.bl (within x 0 2147483646)) := by
  refine spec_of_awp (M := MM) (np := 1) (fz := true) mixed Try.func64 rfl rfl (by decide) rfl (Nat.le_refl _) (by decide +kernel) (.inr ⟨rfl, rfl⟩) trivial ?_
  simp -dsimp -implicitDefEqProofs (disch := omega) only [↓amPre, amPost0, amPost1, amPost2, amPost3, ↓reduceIte, reduceCtorEq, Nat.reduceEqDiff, Nat.reduceBEq, Nat.reduceAdd, Nat.reduceLeDiff, Nat.reduceSub, Nat.reduceMul, tyF, MM]
  refine callP_of (withinI_spec _ _ _) ?_
  simp -dsimp -implicitDefEqProofs (disch := omega) only [↓amPre, amPost0, amPost1, amPost2, amPost3, ↓reduceIte, reduceCtorEq, Nat.reduceEqDiff, Nat.reduceBEq, Nat.reduceAdd, Nat.reduceLeDiff, Nat.reduceSub, Nat.reduceMul, tyF, MM]
theorem f16 (x : Int) (h0 : 0 ≤ x) (h1 : x ≤ 2147483646) : SpecAt Try.prog 16 [.i64 x] (.i64 (next x)) := by
  refine spec_of_awp (M := MM) (np := 1) (fz := true) mixed Try.func16 rfl rfl (by decide) rfl (Nat.le_refl _) (by decide +kernel) (.inr ⟨rfl, rfl⟩) trivial ?_
  have e : x.tmod 2147483647 = x := by rw [Int.tmod_eq_emod_of_nonneg h0]; omega
  simp -dsimp -implicitDefEqProofs (disch := omega) only [↓amPre, amPost0, amPost1, amPost2, amPost3, ↓reduceIte, reduceCtorEq, Nat.reduceEqDiff, Nat.reduceBEq, Nat.reduceAdd, Nat.reduceLeDiff, Nat.reduceSub, Nat.reduceMul, tyF, MM, e]
  rw [next]
set_option maxHeartbeats 2000000 in
theorem f25 (x b : Int) (n : Nat) (h0 : 0 ≤ x) (h1 : x ≤ 2147483646) (hb : 1 ≤ b) (hb1 : b ≤ 2147483647) (hn : n ≤ 200) : SpecAt Try.prog 25 [.i64 x, .i64 b, .i64 n] (.tr 1 (rn x b n)) := by
  refine spec_of_awp (M := MM) (np := 3) (fz := false) mixed Try.func25 rfl rfl (by decide) rfl (Nat.le_refl _) (by decide +kernel) (.inl rfl) (by first | trivial | simp only [sigsOk_nil, sigsOk_some, sigsOk_none, sig_tr, sig_pt, sig_mt, sig_agg, List.map_cons, List.map_nil, sig1_tr, sig1_pt, sig1_v, and_self, true_and]) ?_
  simp -dsimp -implicitDefEqProofs (disch := omega) only [↓amPre, amPost0, amPost1, amPost2, amPost3, ↓reduceIte, reduceCtorEq, Nat.reduceEqDiff, Nat.reduceBEq, Nat.reduceAdd, Nat.reduceLeDiff, Nat.reduceSub, Nat.reduceMul, tyF, MM]
  refine callP_of (f64 _) ?_
  have w1 : within x 0 2147483646 = true := by simp [within]; omega
  have w2 : within b 1 2147483647 = true := by simp [within]; omega
  have w3 : within n 0 200 = true := by simp [within]; omega
  simp -dsimp -implicitDefEqProofs (disch := omega) only [↓amPre, amPost0, amPost1, amPost2, amPost3, ↓reduceIte, reduceCtorEq, Nat.reduceEqDiff, Nat.reduceBEq, Nat.reduceAdd, Nat.reduceLeDiff, Nat.reduceSub, Nat.reduceMul, tyF, MM, w1]
  refine callP_of (withinI_spec _ _ _) ?_
  simp -dsimp -implicitDefEqProofs (disch := omega) only [↓amPre, amPost0, amPost1, amPost2, amPost3, ↓reduceIte, reduceCtorEq, Nat.reduceEqDiff, Nat.reduceBEq, Nat.reduceAdd, Nat.reduceLeDiff, Nat.reduceSub, Nat.reduceMul, tyF, MM, w2]
  refine callP_of (withinI_spec _ _ _) ?_
  simp -dsimp -implicitDefEqProofs (disch := omega) only [↓amPre, amPost0, amPost1, amPost2, amPost3, ↓reduceIte, reduceCtorEq, Nat.reduceEqDiff, Nat.reduceBEq, Nat.reduceAdd, Nat.reduceLeDiff, Nat.reduceSub, Nat.reduceMul, tyF, MM, w3]
  refine awp_loop (fun j st => j ≤ n ∧ st.fr 0 = .i64 (it x j) ∧ st.fr 22 = .i64 j ∧ st.fr 21 = .i64 n ∧ st.fr 1 = .i64 b ∧ ((j = 0 ∧ st.fr 7 = .nilsl) ∨ (st.fr 7 = .ref 31 [] 1 0 j ∧ st.mem 31 = some (.tr 1 (rn x b j))))) n ?_ ?_
  · simp -dsimp -implicitDefEqProofs (disch := omega) only [↓amPre, amPost0, amPost1, amPost2, amPost3, ↓reduceIte, reduceCtorEq, Nat.reduceEqDiff, Nat.reduceBEq, Nat.reduceAdd, Nat.reduceLeDiff, Nat.reduceSub, Nat.reduceMul, tyF, MM]
    exact ⟨Nat.zero_le _, rfl, rfl⟩
  rintro j st _ ⟨hj, h8, h22, h21, h1', hs⟩
  obtain ⟨i0, i1⟩ := it_ok h0 h1 j
  have hlen := rn_len x b j
  by_cases hlt : j < n
  · have hsu := rn_succ x b j
    have htk := rn_take x b j
    rcases hs with ⟨rfl, h7⟩ | ⟨h7, hm⟩
    · have e0 : rn x b 0 = [] := rfl
      rw [e0] at hsu
      simp -dsimp -implicitDefEqProofs (disch := omega) only [↓amPre, amPost0, amPost1, amPost2, amPost3, ↓reduceIte, reduceCtorEq, Nat.reduceEqDiff, Nat.reduceBEq, Nat.reduceAdd, Nat.reduceLeDiff, Nat.reduceSub, Nat.reduceMul, tyF, MM, h8, h22, h21, h1', h7]
      refine callP_of (f16 _ i0 i1) ?_
      simp -dsimp -implicitDefEqProofs (disch := omega) only [↓amPre, amPost0, amPost1, amPost2, amPost3, ↓reduceIte, reduceCtorEq, Nat.reduceEqDiff, Nat.reduceBEq, Nat.reduceAdd, Nat.reduceLeDiff, Nat.reduceSub, Nat.reduceMul, tyF, MM, h8, h22, h21, h1', h7]
      refine ⟨hlt, hlt, rfl, by simp, ?_⟩
      simp only [List.nil_append] at hsu
      rw [← hsu]
    · simp -dsimp -implicitDefEqProofs (disch := omega) only [↓amPre, amPost0, amPost1, amPost2, amPost3, ↓reduceIte, reduceCtorEq, Nat.reduceEqDiff, Nat.reduceBEq, Nat.reduceAdd, Nat.reduceLeDiff, Nat.reduceSub, Nat.reduceMul, tyF, MM, h8, h22, h21, h1', h7, hm, hlen]
      refine callP_of (f16 _ i0 i1) ?_
      simp -dsimp -implicitDefEqProofs (disch := omega) only [↓amPre, amPost0, amPost1, amPost2, amPost3, ↓reduceIte, reduceCtorEq, Nat.reduceEqDiff, Nat.reduceBEq, Nat.reduceAdd, Nat.reduceLeDiff, Nat.reduceSub, Nat.reduceMul, tyF, MM, h8, h22, h21, h1', h7, hm, hlen, htk, hsu]
      exact ⟨hlt, hlt, rfl, by simp⟩
  · have hje : j = n := by omega
    subst hje
    rcases hs with ⟨rfl, h7⟩ | ⟨h7, hm⟩
    · simp -dsimp -implicitDefEqProofs (disch := omega) only [↓amPre, amPost0, amPost1, amPost2, amPost3, ↓reduceIte, reduceCtorEq, Nat.reduceEqDiff, Nat.reduceBEq, Nat.reduceAdd, Nat.reduceLeDiff, Nat.reduceSub, Nat.reduceMul, tyF, MM, h8, h22, h21, h1', h7]
      rfl
    · simp -dsimp -implicitDefEqProofs (disch := omega) only [↓amPre, amPost0, amPost1, amPost2, amPost3, ↓reduceIte, reduceCtorEq, Nat.reduceEqDiff, Nat.reduceBEq, Nat.reduceAdd, Nat.reduceLeDiff, Nat.reduceSub, Nat.reduceMul, tyF, MM, h8, h22, h21, h1', h7, hm, hlen, rn_take]
end Go.AM

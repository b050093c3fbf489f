/-
  CONTRACTS of functions of the program: what each computes, by content.
-/
import Derived.Test.YtjlnccjhgngnoaaRandC
set_option linter.unusedVariables false
set_option linter.unusedSimpArgs false
namespace Go.AM
open Go.Proofs
set_option maxHeartbeats 2000000 in
theorem f24n (x b c : Int) (h : (within x 0 2147483646 && within b 1 2147483647 && within c 0 200) = false) : SpecAt Try.prog 24 [.i64 x, .i64 b, .i64 c] (.tr 1 []) := by
  refine spec_of_awp (M := MM) (np := 3) (fz := false) mixed Try.func24 rfl rfl (by decide) rfl (Nat.le_refl _) (by decide +kernel) (.inl rfl) (by first | trivial | simp only [sigsOk_nil, sigsOk_some, sigsOk_none, sig_tr, sig_pt, sig_mt, sig_agg, List.map_cons, List.map_nil, sig1_tr, sig1_pt, sig1_v, and_self, true_and]) ?_
  simp -dsimp -implicitDefEqProofs (disch := omega) only [↓amPre, amPost0, amPost1, amPost2, amPost3, ↓reduceIte, reduceCtorEq, Nat.reduceEqDiff, Nat.reduceBEq, Nat.reduceAdd, Nat.reduceLeDiff, Nat.reduceSub, Nat.reduceMul, tyF, MM]
  refine callP_of (f62 _) ?_
  cases w1 : within x 0 2147483646 with
  | false =>
    simp -dsimp -implicitDefEqProofs (disch := omega) only [↓amPre, amPost0, amPost1, amPost2, amPost3, ↓reduceIte, reduceCtorEq, Nat.reduceEqDiff, Nat.reduceBEq, Nat.reduceAdd, Nat.reduceLeDiff, Nat.reduceSub, Nat.reduceMul, tyF, MM, w1]
  | true =>
    simp -dsimp -implicitDefEqProofs (disch := omega) only [↓amPre, amPost0, amPost1, amPost2, amPost3, ↓reduceIte, reduceCtorEq, Nat.reduceEqDiff, Nat.reduceBEq, Nat.reduceAdd, Nat.reduceLeDiff, Nat.reduceSub, Nat.reduceMul, tyF, MM, w1]
    refine callP_of (inRange_spec _ _ _) ?_
    cases w2 : within b 1 2147483647 with
    | false => simp -dsimp -implicitDefEqProofs (disch := omega) only [↓amPre, amPost0, amPost1, amPost2, amPost3, ↓reduceIte, reduceCtorEq, Nat.reduceEqDiff, Nat.reduceBEq, Nat.reduceAdd, Nat.reduceLeDiff, Nat.reduceSub, Nat.reduceMul, tyF, MM, w2]
    | true =>
      simp -dsimp -implicitDefEqProofs (disch := omega) only [↓amPre, amPost0, amPost1, amPost2, amPost3, ↓reduceIte, reduceCtorEq, Nat.reduceEqDiff, Nat.reduceBEq, Nat.reduceAdd, Nat.reduceLeDiff, Nat.reduceSub, Nat.reduceMul, tyF, MM, w2]
      refine callP_of (f63 _) ?_
      have w3 : within c 0 200 = false := by simpa [w1, w2] using h
      simp -dsimp -implicitDefEqProofs (disch := omega) only [↓amPre, amPost0, amPost1, amPost2, amPost3, ↓reduceIte, reduceCtorEq, Nat.reduceEqDiff, Nat.reduceBEq, Nat.reduceAdd, Nat.reduceLeDiff, Nat.reduceSub, Nat.reduceMul, tyF, MM, w3]
set_option maxHeartbeats 2000000 in
theorem f25n (x b c : Int) (h : (within x 0 2147483646 && within b 1 2147483647 && within c 0 200) = false) : SpecAt Try.prog 25 [.i64 x, .i64 b, .i64 c] (.tr 1 []) := by
  refine spec_of_awp (M := MM) (np := 3) (fz := false) mixed Try.func25 rfl rfl (by decide) rfl (Nat.le_refl _) (by decide +kernel) (.inl rfl) (by first | trivial | simp only [sigsOk_nil, sigsOk_some, sigsOk_none, sig_tr, sig_pt, sig_mt, sig_agg, List.map_cons, List.map_nil, sig1_tr, sig1_pt, sig1_v, and_self, true_and]) ?_
  simp -dsimp -implicitDefEqProofs (disch := omega) only [↓amPre, amPost0, amPost1, amPost2, amPost3, ↓reduceIte, reduceCtorEq, Nat.reduceEqDiff, Nat.reduceBEq, Nat.reduceAdd, Nat.reduceLeDiff, Nat.reduceSub, Nat.reduceMul, tyF, MM]
  refine callP_of (f64 _) ?_
  cases w1 : within x 0 2147483646 with
  | false => simp -dsimp -implicitDefEqProofs (disch := omega) only [↓amPre, amPost0, amPost1, amPost2, amPost3, ↓reduceIte, reduceCtorEq, Nat.reduceEqDiff, Nat.reduceBEq, Nat.reduceAdd, Nat.reduceLeDiff, Nat.reduceSub, Nat.reduceMul, tyF, MM, w1]
  | true =>
    simp -dsimp -implicitDefEqProofs (disch := omega) only [↓amPre, amPost0, amPost1, amPost2, amPost3, ↓reduceIte, reduceCtorEq, Nat.reduceEqDiff, Nat.reduceBEq, Nat.reduceAdd, Nat.reduceLeDiff, Nat.reduceSub, Nat.reduceMul, tyF, MM, w1]
    refine callP_of (withinI_spec _ _ _) ?_
    cases w2 : within b 1 2147483647 with
    | false => simp -dsimp -implicitDefEqProofs (disch := omega) only [↓amPre, amPost0, amPost1, amPost2, amPost3, ↓reduceIte, reduceCtorEq, Nat.reduceEqDiff, Nat.reduceBEq, Nat.reduceAdd, Nat.reduceLeDiff, Nat.reduceSub, Nat.reduceMul, tyF, MM, w2]
    | true =>
      simp -dsimp -implicitDefEqProofs (disch := omega) only [↓amPre, amPost0, amPost1, amPost2, amPost3, ↓reduceIte, reduceCtorEq, Nat.reduceEqDiff, Nat.reduceBEq, Nat.reduceAdd, Nat.reduceLeDiff, Nat.reduceSub, Nat.reduceMul, tyF, MM, w2]
      refine callP_of (withinI_spec _ _ _) ?_
      have w3 : within c 0 200 = false := by simpa [w1, w2] using h
      simp -dsimp -implicitDefEqProofs (disch := omega) only [↓amPre, amPost0, amPost1, amPost2, amPost3, ↓reduceIte, reduceCtorEq, Nat.reduceEqDiff, Nat.reduceBEq, Nat.reduceAdd, Nat.reduceLeDiff, Nat.reduceSub, Nat.reduceMul, tyF, MM, w3]
def marked (es : List AV) (k : Int) (j : Nat) : List AV := marks k j ++ es.drop j
theorem marked_len (es : List AV) (k : Int) (j : Nat) (h : j ≤ es.length) : (marked es k j).length = es.length := by
  simp [marked, marks_len]; omega
theorem marked_step (es : List AV) (k : Int) (j : Nat) (h : j < es.length) : (marked es k j).set j (.i64 (k + j)) = marked es k (j + 1) := by
  apply List.ext_getElem?
  have hm : ∀ (n : Nat) (k : Int) (i : Nat), (marks k n)[i]? = if i < n then some (.i64 (k + i)) else none := by
    intro n
    induction n with
    | zero => intro k i; simp [marks]
    | succ n ih =>
      intro k i
      cases i with
      | zero => simp [marks]
      | succ i =>
        simp only [marks, List.getElem?_cons_succ, ih, Nat.add_lt_add_iff_right]
        split
        · simp; omega
        · rfl
  intro i
  rw [List.getElem?_set, marked, marked]
  simp only [List.length_append, marks_len, List.length_drop]
  by_cases e : j = i
  · subst e
    rw [if_pos rfl, if_pos (by omega), List.getElem?_append_left (by rw [marks_len]; omega), hm, if_pos (by omega)]
  · rw [if_neg e]
    by_cases hlt : i < j
    · rw [List.getElem?_append_left (by rw [marks_len]; omega), List.getElem?_append_left (by rw [marks_len]; omega), hm, hm, if_pos hlt, if_pos (by omega)]
    · rw [List.getElem?_append_right (by rw [marks_len]; omega), List.getElem?_append_right (by rw [marks_len]; omega), marks_len, marks_len, List.getElem?_drop, List.getElem?_drop]
      congr 1; omega
set_option maxHeartbeats 1000000 in
theorem markInt64S_spec (es : List AV) (k : Int) (h0 : 0 ≤ k) (h1 : k ≤ 1099511627776) (hl : es.length ≤ 1099511627776) : SpecX Try.prog 27 [.tr 1 es, .i64 k] [some (.tr 1 (marks k es.length))] (.i64 (k + es.length)) := by
  refine spec_of_awp (M := MM) (np := 2) (fz := false) mixed Try.func27 rfl rfl (by decide) rfl (Nat.le_refl _) (by decide +kernel) (.inl rfl) (by simp [sigsOk_some, sigsOk_nil, sig_tr, marks_len]) ?_
  simp -dsimp -implicitDefEqProofs (disch := omega) only [↓amPre, amPost0, amPost1, amPost2, amPost3, ↓reduceIte, reduceCtorEq, Nat.reduceEqDiff, Nat.reduceBEq, Nat.reduceAdd, Nat.reduceLeDiff, Nat.reduceSub, Nat.reduceMul, tyF, MM]
  refine awp_loop (fun j st => j ≤ es.length ∧ st.fr 5 = .i64 j ∧ st.fr 1 = .i64 (k + j) ∧ st.fr 0 = .ref 0 [] 1 0 es.length ∧ st.mem 0 = some (.tr 1 (marked es k j))) es.length ?_ ?_
  · simp -dsimp -implicitDefEqProofs (disch := omega) only [↓amPre, amPost0, amPost1, amPost2, amPost3, ↓reduceIte, reduceCtorEq, Nat.reduceEqDiff, Nat.reduceBEq, Nat.reduceAdd, Nat.reduceLeDiff, Nat.reduceSub, Nat.reduceMul, tyF, MM]
    simp [marked, marks]
  rintro j st _ ⟨hj, h5, h1', h0', hm⟩
  have hml := marked_len es k j hj
  by_cases hlt : j < es.length
  · have hst := marked_step es k j hlt
    simp -dsimp -implicitDefEqProofs (disch := omega) only [↓amPre, amPost0, amPost1, amPost2, amPost3, ↓reduceIte, reduceCtorEq, Nat.reduceEqDiff, Nat.reduceBEq, Nat.reduceAdd, Nat.reduceLeDiff, Nat.reduceSub, Nat.reduceMul, tyF, MM, h5, h1', h0', hm, hml, hst]
    refine ⟨hlt, hlt, ?_⟩
    simp; omega
  · have hje : j = es.length := by omega
    subst hje
    simp -dsimp -implicitDefEqProofs (disch := omega) only [↓amPre, amPost0, amPost1, amPost2, amPost3, ↓reduceIte, reduceCtorEq, Nat.reduceEqDiff, Nat.reduceBEq, Nat.reduceAdd, Nat.reduceLeDiff, Nat.reduceSub, Nat.reduceMul, tyF, MM, h5, h1', h0', hm, hml]
    simp [marked]
end Go.AM

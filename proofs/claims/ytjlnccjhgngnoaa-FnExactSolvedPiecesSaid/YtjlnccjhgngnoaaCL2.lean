/-
  CONTRACTS of functions of the program, and what they compute, by content.
-/
import Derived.Test.YtjlnccjhgngnoaaCU8
set_option linter.unusedVariables false
set_option linter.unusedSimpArgs false
set_option maxRecDepth 8000
namespace Go.AM
open Go.Proofs
theorem sSolvedPieces (ks : List Kind) (hl : ks.length ≤ 1099511627776) : SpecAt Try.prog 42 [ksl ks] (ttr (solvedR ks)) := by
  refine spec_of_awp (M := MM) (np := 1) (fz := false) mixed Try.func42 rfl rfl (by decide) rfl (Nat.le_refl _) (by decide +kernel) (.inl rfl) (by first | trivial | simp only [sigsOk_nil, sigsOk_some, sigsOk_none, sig_tr, sig_pt, sig_mt, sig_agg, List.map_cons, List.map_nil, sig1_tr, sig1_pt, sig1_v, and_self, true_and, List.length_map, List.length_set]) ?_
  simp -dsimp -implicitDefEqProofs (disch := first | omega | (simp only [lenr]; done) | (simp only [lenr]; omega)) only [↓amPre, amPost0, amPost1, amPost2, amPost3, ↓reduceIte, reduceCtorEq, Nat.reduceEqDiff, Nat.reduceBEq, Nat.reduceAdd, Nat.reduceLeDiff, Nat.reduceSub, Nat.reduceMul, Int.reduceToNat, List.size_toArray, tyF, MM, bu0, ipure, kpure, tpure, kset, tset, ksnoc, tsnoc, Kind.av, Twist.sl, Twist.tr]
  refine callP_of (sAreValidKinds _ hl) ?_
  by_cases h : kindsOk ks
  · have hR : solvedR ks = ks.map solvedK := if_pos h
    have hml : (ks.map solvedK).length = ks.length := by simp
    simp -dsimp -implicitDefEqProofs (disch := first | omega | (simp only [lenr]; done) | (simp only [lenr]; omega)) only [↓amPre, amPost0, amPost1, amPost2, amPost3, ↓reduceIte, reduceCtorEq, Nat.reduceEqDiff, Nat.reduceBEq, Nat.reduceAdd, Nat.reduceLeDiff, Nat.reduceSub, Nat.reduceMul, Int.reduceToNat, List.size_toArray, tyF, MM, bu0, ipure, kpure, tpure, kset, tset, ksnoc, tsnoc, Kind.av, Twist.sl, Twist.tr, h]
    refine callP_of (sl21Solved _ h) ?_
    simp -dsimp -implicitDefEqProofs (disch := first | omega | (simp only [lenr]; done) | (simp only [lenr]; omega)) only [↓amPre, amPost0, amPost1, amPost2, amPost3, ↓reduceIte, reduceCtorEq, Nat.reduceEqDiff, Nat.reduceBEq, Nat.reduceAdd, Nat.reduceLeDiff, Nat.reduceSub, Nat.reduceMul, Int.reduceToNat, List.size_toArray, tyF, MM, bu0, ipure, kpure, tpure, kset, tset, ksnoc, tsnoc, Kind.av, Twist.sl, Twist.tr, hR, hml]
  · have hR : solvedR ks = [] := if_neg h
    simp -dsimp -implicitDefEqProofs (disch := first | omega | (simp only [lenr]; done) | (simp only [lenr]; omega)) only [↓amPre, amPost0, amPost1, amPost2, amPost3, ↓reduceIte, reduceCtorEq, Nat.reduceEqDiff, Nat.reduceBEq, Nat.reduceAdd, Nat.reduceLeDiff, Nat.reduceSub, Nat.reduceMul, Int.reduceToNat, List.size_toArray, tyF, MM, bu0, ipure, kpure, tpure, kset, tset, ksnoc, tsnoc, Kind.av, Twist.sl, Twist.tr, h, hR]
theorem solvedR_bound (ks : List Kind) : (solvedR ks).length ≤ 3 ∧ (∀ t ∈ solvedR ks, t.to.length ≤ 20 ∧ t.by'.length ≤ 20) ∧ cnts (solvedR ks) ≤ 120 := by
  unfold solvedR
  split
  · rename_i h
    have hb : ∀ t ∈ ks.map solvedK, t.to.length ≤ 20 ∧ t.by'.length ≤ 20 := by
      intro t ht
      obtain ⟨k, hk, rfl⟩ := List.mem_map.1 ht
      have := h.2.1 k hk
      have := this.1
      simp only [solvedK, runI_len, List.length_replicate]; omega
    have hl := h.1.2
    refine ⟨by simpa using hl, hb, ?_⟩
    have := cnts_bound (ks.map solvedK) 40 (fun t ht => by have := hb t ht; show t.to.length + t.by'.length ≤ 40; omega)
    have e : (ks.map solvedK).length = ks.length := by simp
    rw [e] at this
    omega
  · simp [cnts]
theorem lawSolvedPieces (l : List Kind) (hl : l.length ≤ 9223372036854775807) : SpecAt Try.prog 12 [ksl l] (.bl true) := by
  obtain ⟨b1, b2, b3⟩ := solvedR_bound l
  have b2' : ∀ t ∈ solvedR l, t.to.length ≤ 1099511627776 ∧ t.by'.length ≤ 1099511627776 := fun t ht => by have := b2 t ht; omega
  refine spec_of_awp (M := MM) (np := 1) (fz := true) mixed Try.func12 rfl rfl (by decide) rfl (Nat.le_refl _) (by decide +kernel) (.inr ⟨rfl, rfl⟩) trivial ?_
  simp -dsimp -implicitDefEqProofs (disch := first | omega | (simp only [lenr]; done) | (simp only [lenr]; omega)) only [↓amPre, amPost0, amPost1, amPost2, amPost3, ↓reduceIte, reduceCtorEq, Nat.reduceEqDiff, Nat.reduceBEq, Nat.reduceAdd, Nat.reduceLeDiff, Nat.reduceSub, Nat.reduceMul, Int.reduceToNat, List.size_toArray, tyF, MM, bu0, ipure, kpure, tpure, kset, tset, ksnoc, tsnoc, Kind.av, Twist.sl, Twist.tr]
  refine callP_of (szKindS l 1048576 (by unfold intOk; omega) (by omega) hl) ?_
  by_cases c : (1048576 : Int) - l.length < 0
  · simp -dsimp -implicitDefEqProofs (disch := first | omega | (simp only [lenr]; done) | (simp only [lenr]; omega)) only [↓amPre, amPost0, amPost1, amPost2, amPost3, ↓reduceIte, reduceCtorEq, Nat.reduceEqDiff, Nat.reduceBEq, Nat.reduceAdd, Nat.reduceLeDiff, Nat.reduceSub, Nat.reduceMul, Int.reduceToNat, List.size_toArray, tyF, MM, bu0, ipure, kpure, tpure, kset, tset, ksnoc, tsnoc, Kind.av, Twist.sl, Twist.tr, szR_neg c]
  have hb : l.length ≤ 1099511627776 := by omega
  have hc : 0 ≤ (1048576 : Int) - l.length := by omega
  simp -dsimp -implicitDefEqProofs (disch := first | omega | (simp only [lenr]; done) | (simp only [lenr]; omega)) only [↓amPre, amPost0, amPost1, amPost2, amPost3, ↓reduceIte, reduceCtorEq, Nat.reduceEqDiff, Nat.reduceBEq, Nat.reduceAdd, Nat.reduceLeDiff, Nat.reduceSub, Nat.reduceMul, Int.reduceToNat, List.size_toArray, tyF, MM, bu0, ipure, kpure, tpure, kset, tset, ksnoc, tsnoc, Kind.av, Twist.sl, Twist.tr, szR_pos hc]
  refine callP_of (toKindS l hb) ?_
  simp -dsimp -implicitDefEqProofs (disch := first | omega | (simp only [lenr]; done) | (simp only [lenr]; omega)) only [↓amPre, amPost0, amPost1, amPost2, amPost3, ↓reduceIte, reduceCtorEq, Nat.reduceEqDiff, Nat.reduceBEq, Nat.reduceAdd, Nat.reduceLeDiff, Nat.reduceSub, Nat.reduceMul, Int.reduceToNat, List.size_toArray, tyF, MM, bu0, ipure, kpure, tpure, kset, tset, ksnoc, tsnoc, Kind.av, Twist.sl, Twist.tr, kfz, tfz]
  refine callP_of (sSolvedPieces l hb) ?_
  simp -dsimp -implicitDefEqProofs (disch := first | omega | (simp only [lenr]; done) | (simp only [lenr]; omega)) only [↓amPre, amPost0, amPost1, amPost2, amPost3, ↓reduceIte, reduceCtorEq, Nat.reduceEqDiff, Nat.reduceBEq, Nat.reduceAdd, Nat.reduceLeDiff, Nat.reduceSub, Nat.reduceMul, Int.reduceToNat, List.size_toArray, tyF, MM, bu0, ipure, kpure, tpure, kset, tset, ksnoc, tsnoc, Kind.av, Twist.sl, Twist.tr, kfz, tfz]
  refine callP_of (toKindS l hb) ?_
  simp -dsimp -implicitDefEqProofs (disch := first | omega | (simp only [lenr]; done) | (simp only [lenr]; omega)) only [↓amPre, amPost0, amPost1, amPost2, amPost3, ↓reduceIte, reduceCtorEq, Nat.reduceEqDiff, Nat.reduceBEq, Nat.reduceAdd, Nat.reduceLeDiff, Nat.reduceSub, Nat.reduceMul, Int.reduceToNat, List.size_toArray, tyF, MM, bu0, ipure, kpure, tpure, kset, tset, ksnoc, tsnoc, Kind.av, Twist.sl, Twist.tr, kfz, tfz]
  refine callP_of (isolvedPieces l hb) ?_
  simp -dsimp -implicitDefEqProofs (disch := first | omega | (simp only [lenr]; done) | (simp only [lenr]; omega)) only [↓amPre, amPost0, amPost1, amPost2, amPost3, ↓reduceIte, reduceCtorEq, Nat.reduceEqDiff, Nat.reduceBEq, Nat.reduceAdd, Nat.reduceLeDiff, Nat.reduceSub, Nat.reduceMul, Int.reduceToNat, List.size_toArray, tyF, MM, bu0, ipure, kpure, tpure, kset, tset, ksnoc, tsnoc, Kind.av, Twist.sl, Twist.tr, kfz, tfz]
  refine callP_of (eqTwistS (solvedR l) (solvedR l) (by omega) b2') ?_
  simp -dsimp -implicitDefEqProofs (disch := first | omega | (simp only [lenr]; done) | (simp only [lenr]; omega)) only [↓amPre, amPost0, amPost1, amPost2, amPost3, ↓reduceIte, reduceCtorEq, Nat.reduceEqDiff, Nat.reduceBEq, Nat.reduceAdd, Nat.reduceLeDiff, Nat.reduceSub, Nat.reduceMul, Int.reduceToNat, List.size_toArray, tyF, MM, bu0, ipure, kpure, tpure, kset, tset, ksnoc, tsnoc, Kind.av, Twist.sl, Twist.tr, kfz, tfz]
  refine callP_of (toKindS l hb) ?_
  simp -dsimp -implicitDefEqProofs (disch := first | omega | (simp only [lenr]; done) | (simp only [lenr]; omega)) only [↓amPre, amPost0, amPost1, amPost2, amPost3, ↓reduceIte, reduceCtorEq, Nat.reduceEqDiff, Nat.reduceBEq, Nat.reduceAdd, Nat.reduceLeDiff, Nat.reduceSub, Nat.reduceMul, Int.reduceToNat, List.size_toArray, tyF, MM, bu0, ipure, kpure, tpure, kset, tset, ksnoc, tsnoc, Kind.av, Twist.sl, Twist.tr, kfz, tfz]
  refine callP_of (eqKindS l l hb) ?_
  simp -dsimp -implicitDefEqProofs (disch := first | omega | (simp only [lenr]; done) | (simp only [lenr]; omega)) only [↓amPre, amPost0, amPost1, amPost2, amPost3, ↓reduceIte, reduceCtorEq, Nat.reduceEqDiff, Nat.reduceBEq, Nat.reduceAdd, Nat.reduceLeDiff, Nat.reduceSub, Nat.reduceMul, Int.reduceToNat, List.size_toArray, tyF, MM, bu0, ipure, kpure, tpure, kset, tset, ksnoc, tsnoc, Kind.av, Twist.sl, Twist.tr, kfz, tfz]
  refine callX_of (markKindS l 1 (by omega) (by omega) hb) ?_
  simp -dsimp -implicitDefEqProofs (disch := first | omega | (simp only [lenr]; done) | (simp only [lenr]; omega)) only [↓amPre, amPost0, amPost1, amPost2, amPost3, ↓reduceIte, reduceCtorEq, Nat.reduceEqDiff, Nat.reduceBEq, Nat.reduceAdd, Nat.reduceLeDiff, Nat.reduceSub, Nat.reduceMul, Int.reduceToNat, List.size_toArray, tyF, MM, bu0, ipure, kpure, tpure, kset, tset, ksnoc, tsnoc, Kind.av, Twist.sl, Twist.tr, kfz, tfz]
  refine callP_of (eqTwistS (solvedR l) (solvedR l) (by omega) b2') ?_
  simp -dsimp -implicitDefEqProofs (disch := first | omega | (simp only [lenr]; done) | (simp only [lenr]; omega)) only [↓amPre, amPost0, amPost1, amPost2, amPost3, ↓reduceIte, reduceCtorEq, Nat.reduceEqDiff, Nat.reduceBEq, Nat.reduceAdd, Nat.reduceLeDiff, Nat.reduceSub, Nat.reduceMul, Int.reduceToNat, List.size_toArray, tyF, MM, bu0, ipure, kpure, tpure, kset, tset, ksnoc, tsnoc, Kind.av, Twist.sl, Twist.tr, kfz, tfz]
  refine callX_of (markTwistS (solvedR l) 1 (by omega) (by omega) (by omega)) ?_
  simp -dsimp -implicitDefEqProofs (disch := first | omega | (simp only [lenr]; done) | (simp only [lenr]; omega)) only [↓amPre, amPost0, amPost1, amPost2, amPost3, ↓reduceIte, reduceCtorEq, Nat.reduceEqDiff, Nat.reduceBEq, Nat.reduceAdd, Nat.reduceLeDiff, Nat.reduceSub, Nat.reduceMul, Int.reduceToNat, List.size_toArray, tyF, MM, bu0, ipure, kpure, tpure, kset, tset, ksnoc, tsnoc, Kind.av, Twist.sl, Twist.tr, kfz, tfz]
  refine callP_of (heldTwistS (solvedR l) 1 (by omega) (by omega) (by omega)) ?_
  simp -dsimp -implicitDefEqProofs (disch := first | omega | (simp only [lenr]; done) | (simp only [lenr]; omega)) only [↓amPre, amPost0, amPost1, amPost2, amPost3, ↓reduceIte, reduceCtorEq, Nat.reduceEqDiff, Nat.reduceBEq, Nat.reduceAdd, Nat.reduceLeDiff, Nat.reduceSub, Nat.reduceMul, Int.reduceToNat, List.size_toArray, tyF, MM, bu0, ipure, kpure, tpure, kset, tset, ksnoc, tsnoc, Kind.av, Twist.sl, Twist.tr, kfz, tfz, mks_len]
  refine callP_of (toKindS l hb) ?_
  simp -dsimp -implicitDefEqProofs (disch := first | omega | (simp only [lenr]; done) | (simp only [lenr]; omega)) only [↓amPre, amPost0, amPost1, amPost2, amPost3, ↓reduceIte, reduceCtorEq, Nat.reduceEqDiff, Nat.reduceBEq, Nat.reduceAdd, Nat.reduceLeDiff, Nat.reduceSub, Nat.reduceMul, Int.reduceToNat, List.size_toArray, tyF, MM, bu0, ipure, kpure, tpure, kset, tset, ksnoc, tsnoc, Kind.av, Twist.sl, Twist.tr, kfz, tfz, mks_len]
  refine callP_of (isolvedPieces l hb) ?_
  simp -dsimp -implicitDefEqProofs (disch := first | omega | (simp only [lenr]; done) | (simp only [lenr]; omega)) only [↓amPre, amPost0, amPost1, amPost2, amPost3, ↓reduceIte, reduceCtorEq, Nat.reduceEqDiff, Nat.reduceBEq, Nat.reduceAdd, Nat.reduceLeDiff, Nat.reduceSub, Nat.reduceMul, Int.reduceToNat, List.size_toArray, tyF, MM, bu0, ipure, kpure, tpure, kset, tset, ksnoc, tsnoc, Kind.av, Twist.sl, Twist.tr, kfz, tfz, mks_len]
  refine callP_of (eqTwistS (solvedR l) (solvedR l) (by omega) b2') ?_
  simp -dsimp -implicitDefEqProofs (disch := first | omega | (simp only [lenr]; done) | (simp only [lenr]; omega)) only [↓amPre, amPost0, amPost1, amPost2, amPost3, ↓reduceIte, reduceCtorEq, Nat.reduceEqDiff, Nat.reduceBEq, Nat.reduceAdd, Nat.reduceLeDiff, Nat.reduceSub, Nat.reduceMul, Int.reduceToNat, List.size_toArray, tyF, MM, bu0, ipure, kpure, tpure, kset, tset, ksnoc, tsnoc, Kind.av, Twist.sl, Twist.tr, kfz, tfz, mks_len]
  refine callP_of (heldTwistS (solvedR l) 1 (by omega) (by omega) (by omega)) ?_
  simp -dsimp -implicitDefEqProofs (disch := first | omega | (simp only [lenr]; done) | (simp only [lenr]; omega)) only [↓amPre, amPost0, amPost1, amPost2, amPost3, ↓reduceIte, reduceCtorEq, Nat.reduceEqDiff, Nat.reduceBEq, Nat.reduceAdd, Nat.reduceLeDiff, Nat.reduceSub, Nat.reduceMul, Int.reduceToNat, List.size_toArray, tyF, MM, bu0, ipure, kpure, tpure, kset, tset, ksnoc, tsnoc, Kind.av, Twist.sl, Twist.tr, kfz, tfz, mks_len]
end Go.AM

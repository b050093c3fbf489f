/-
  CONTRACTS of functions of the program, and what they compute, by content.
-/
import Derived.Test.YtjlnccjhgngnoaaCV2
set_option linter.unusedVariables false
set_option linter.unusedSimpArgs false
set_option maxRecDepth 8000
namespace Go.AM
open Go.Proofs
set_option maxHeartbeats 4000000 in
theorem iTimed0 (l : Int) (k a : Int) (h0 : 0 ≤ l) (h1 : l ≤ a) (h2 : a ≤ 360000) : SpecAt Try.prog 78 [(⟨0, l, 0, 0, 0, 0, 0, false⟩ : Timer).av, (⟨k, a⟩ : TEvent).av] (appR ⟨0, l, 0, 0, 0, 0, 0, false⟩ k a) := by
  unfold appR
  rcases kinds8 k with rfl | rfl | rfl | rfl | rfl | rfl | rfl | ⟨n1, n2, n3, n4, n5, n6, n7⟩
  all_goals (refine spec_of_awp_any (M := MM) (np := 2) (X := [5, 7, 11]) (fz := true) mixed Try.func78 rfl rfl (by decide) rfl (Nat.le_refl _) (by decide +kernel) (.inr ⟨rfl, rfl⟩) trivial ?_)
  all_goals (simp -dsimp -implicitDefEqProofs (disch := first | omega | (simp only [lenr]; done) | (simp only [lenr]; omega)) only [↓amPre, amAll, ↓reduceIte, reduceCtorEq, Nat.reduceEqDiff, Nat.reduceBEq, Nat.reduceAdd, Nat.reduceLeDiff, Nat.reduceSub, Nat.reduceMul, Int.reduceToNat, List.size_toArray, tyF, MM, bu0, ipure, kpure, tpure, sspure, kset, tset, ksnoc, tsnoc, Kind.av, Twist.sl, Twist.tr, Invar.av, Timer.av, TEvent.av])
  all_goals (try (simp [applyT, Timer.av, *]; done))
  · refine any_go tree5 (fun st' => st'.fr 6 = .loc 6 [] 0 0 ∧ st'.fr 4 = .loc 4 [] 0 0 ∧ st'.mem 4 = some (.pt 8 z8) ∧ st'.mem 6 = some (.pt 8 (.agg [.i64 1, .i64 a, .i64 a, .i64 0, .i64 0, .i64 0, .i64 0, .bl false]))) (by decide +kernel) ?_ ?_
    · unfold tree5
      simp -dsimp -implicitDefEqProofs (disch := first | omega | (simp only [lenr]; done) | (simp only [lenr]; omega)) only [↓amPre, amAll, ↓reduceIte, reduceCtorEq, Nat.reduceEqDiff, Nat.reduceBEq, Nat.reduceAdd, Nat.reduceLeDiff, Nat.reduceSub, Nat.reduceMul, Int.reduceToNat, List.size_toArray, tyF, MM, bu0, ipure, kpure, tpure, sspure, kset, tset, ksnoc, tsnoc, Kind.av, Twist.sl, Twist.tr, Invar.av]
    · rintro st' ⟨q6, q4, qm4, qm⟩
      simp -dsimp -implicitDefEqProofs (disch := first | omega | (simp only [lenr]; done) | (simp only [lenr]; omega)) only [↓amPre, amAll, ↓reduceIte, reduceCtorEq, Nat.reduceEqDiff, Nat.reduceBEq, Nat.reduceAdd, Nat.reduceLeDiff, Nat.reduceSub, Nat.reduceMul, Int.reduceToNat, List.size_toArray, tyF, MM, bu0, ipure, kpure, tpure, sspure, kset, tset, ksnoc, tsnoc, Kind.av, Twist.sl, Twist.tr, Invar.av, q6, q4, qm4, qm, Timer.av]
      simp [applyT, Timer.av]
  · refine callP_of (abandoned_spec ⟨0, l, 0, 0, 0, 0, 0, false⟩ a) ?_
    simp -dsimp -implicitDefEqProofs (disch := first | omega | (simp only [lenr]; done) | (simp only [lenr]; omega)) only [↓amPre, amAll, ↓reduceIte, reduceCtorEq, Nat.reduceEqDiff, Nat.reduceBEq, Nat.reduceAdd, Nat.reduceLeDiff, Nat.reduceSub, Nat.reduceMul, Int.reduceToNat, List.size_toArray, tyF, MM, bu0, ipure, kpure, tpure, sspure, kset, tset, ksnoc, tsnoc, Kind.av, Twist.sl, Twist.tr, Invar.av, Timer.av]
    simp [applyT, Timer.av]
set_option maxHeartbeats 4000000 in
theorem iTimed1 (l i : Int) (k a : Int) (h0 : 0 ≤ l) (h1 : l ≤ a) (h2 : a ≤ 360000) : SpecAt Try.prog 78 [(⟨1, l, i, 0, 0, 0, 0, false⟩ : Timer).av, (⟨k, a⟩ : TEvent).av] (appR ⟨1, l, i, 0, 0, 0, 0, false⟩ k a) := by
  unfold appR
  rcases kinds8 k with rfl | rfl | rfl | rfl | rfl | rfl | rfl | ⟨n1, n2, n3, n4, n5, n6, n7⟩
  all_goals (refine spec_of_awp_any (M := MM) (np := 2) (X := [5, 7, 11]) (fz := true) mixed Try.func78 rfl rfl (by decide) rfl (Nat.le_refl _) (by decide +kernel) (.inr ⟨rfl, rfl⟩) trivial ?_)
  all_goals (simp -dsimp -implicitDefEqProofs (disch := first | omega | (simp only [lenr]; done) | (simp only [lenr]; omega)) only [↓amPre, amAll, ↓reduceIte, reduceCtorEq, Nat.reduceEqDiff, Nat.reduceBEq, Nat.reduceAdd, Nat.reduceLeDiff, Nat.reduceSub, Nat.reduceMul, Int.reduceToNat, List.size_toArray, tyF, MM, bu0, ipure, kpure, tpure, sspure, kset, tset, ksnoc, tsnoc, Kind.av, Twist.sl, Twist.tr, Invar.av, Timer.av, TEvent.av])
  all_goals (try (simp [applyT, Timer.av, *]; done))
  · refine any_go tree7 (fun st' => st'.fr 6 = .loc 6 [] 0 0 ∧ st'.fr 4 = .loc 4 [] 0 0 ∧ st'.mem 4 = some (.pt 8 z8) ∧ st'.mem 6 = some (.pt 8 (.agg [.i64 2, .i64 a, .i64 i, .i64 a, .i64 0, .i64 0, .i64 0, .bl false]))) (by decide +kernel) ?_ ?_
    · unfold tree7
      simp -dsimp -implicitDefEqProofs (disch := first | omega | (simp only [lenr]; done) | (simp only [lenr]; omega)) only [↓amPre, amAll, ↓reduceIte, reduceCtorEq, Nat.reduceEqDiff, Nat.reduceBEq, Nat.reduceAdd, Nat.reduceLeDiff, Nat.reduceSub, Nat.reduceMul, Int.reduceToNat, List.size_toArray, tyF, MM, bu0, ipure, kpure, tpure, sspure, kset, tset, ksnoc, tsnoc, Kind.av, Twist.sl, Twist.tr, Invar.av]
    · rintro st' ⟨q6, q4, qm4, qm⟩
      simp -dsimp -implicitDefEqProofs (disch := first | omega | (simp only [lenr]; done) | (simp only [lenr]; omega)) only [↓amPre, amAll, ↓reduceIte, reduceCtorEq, Nat.reduceEqDiff, Nat.reduceBEq, Nat.reduceAdd, Nat.reduceLeDiff, Nat.reduceSub, Nat.reduceMul, Int.reduceToNat, List.size_toArray, tyF, MM, bu0, ipure, kpure, tpure, sspure, kset, tset, ksnoc, tsnoc, Kind.av, Twist.sl, Twist.tr, Invar.av, q6, q4, qm4, qm, Timer.av]
      simp [applyT, Timer.av]
  · refine callP_of (abandoned_spec ⟨1, l, i, 0, 0, 0, 0, false⟩ a) ?_
    simp -dsimp -implicitDefEqProofs (disch := first | omega | (simp only [lenr]; done) | (simp only [lenr]; omega)) only [↓amPre, amAll, ↓reduceIte, reduceCtorEq, Nat.reduceEqDiff, Nat.reduceBEq, Nat.reduceAdd, Nat.reduceLeDiff, Nat.reduceSub, Nat.reduceMul, Int.reduceToNat, List.size_toArray, tyF, MM, bu0, ipure, kpure, tpure, sspure, kset, tset, ksnoc, tsnoc, Kind.av, Twist.sl, Twist.tr, Invar.av, Timer.av]
    simp [applyT, Timer.av]
set_option maxHeartbeats 4000000 in
theorem iTimed2 (l i : Int) (k a : Int) (h0 : 0 ≤ l) (h1 : l ≤ a) (h2 : a ≤ 360000) (h3 : 0 ≤ i) (h4 : i ≤ l) : SpecAt Try.prog 78 [(⟨2, l, i, l, 0, 0, 0, false⟩ : Timer).av, (⟨k, a⟩ : TEvent).av] (appR ⟨2, l, i, l, 0, 0, 0, false⟩ k a) := by
  unfold appR
  rcases kinds8 k with rfl | rfl | rfl | rfl | rfl | rfl | rfl | ⟨n1, n2, n3, n4, n5, n6, n7⟩
  all_goals (refine spec_of_awp_any (M := MM) (np := 2) (X := [5, 7, 11]) (fz := true) mixed Try.func78 rfl rfl (by decide) rfl (Nat.le_refl _) (by decide +kernel) (.inr ⟨rfl, rfl⟩) trivial ?_)
  all_goals (simp -dsimp -implicitDefEqProofs (disch := first | omega | (simp only [lenr]; done) | (simp only [lenr]; omega)) only [↓amPre, amAll, ↓reduceIte, reduceCtorEq, Nat.reduceEqDiff, Nat.reduceBEq, Nat.reduceAdd, Nat.reduceLeDiff, Nat.reduceSub, Nat.reduceMul, Int.reduceToNat, List.size_toArray, tyF, MM, bu0, ipure, kpure, tpure, sspure, kset, tset, ksnoc, tsnoc, Kind.av, Twist.sl, Twist.tr, Invar.av, Timer.av, TEvent.av])
  all_goals (try (simp [applyT, Timer.av, *]; done))
  · refine callP_of (handsUp_spec ⟨2, l, i, l, 0, 0, 0, false⟩ a h3 (by simp only; omega) h2 (by simp only; omega) (by simp only; omega)) ?_
    by_cases q : a - l < 55
    · simp -dsimp -implicitDefEqProofs (disch := first | omega | (simp only [lenr]; done) | (simp only [lenr]; omega)) only [↓amPre, amAll, ↓reduceIte, reduceCtorEq, Nat.reduceEqDiff, Nat.reduceBEq, Nat.reduceAdd, Nat.reduceLeDiff, Nat.reduceSub, Nat.reduceMul, Int.reduceToNat, List.size_toArray, tyF, MM, bu0, ipure, kpure, tpure, sspure, kset, tset, ksnoc, tsnoc, Kind.av, Twist.sl, Twist.tr, Invar.av, Timer.av, if_pos q]
      simp [applyT, Timer.av, q]
    · generalize hst : started a i = S
      simp -dsimp -implicitDefEqProofs (disch := first | omega | (simp only [lenr]; done) | (simp only [lenr]; omega)) only [↓amPre, amAll, ↓reduceIte, reduceCtorEq, Nat.reduceEqDiff, Nat.reduceBEq, Nat.reduceAdd, Nat.reduceLeDiff, Nat.reduceSub, Nat.reduceMul, Int.reduceToNat, List.size_toArray, tyF, MM, bu0, ipure, kpure, tpure, sspure, kset, tset, ksnoc, tsnoc, Kind.av, Twist.sl, Twist.tr, Invar.av, Timer.av, if_neg q, hst]
      simp [applyT, Timer.av, q, hst]
  · refine callP_of (abandoned_spec ⟨2, l, i, l, 0, 0, 0, false⟩ a) ?_
    simp -dsimp -implicitDefEqProofs (disch := first | omega | (simp only [lenr]; done) | (simp only [lenr]; omega)) only [↓amPre, amAll, ↓reduceIte, reduceCtorEq, Nat.reduceEqDiff, Nat.reduceBEq, Nat.reduceAdd, Nat.reduceLeDiff, Nat.reduceSub, Nat.reduceMul, Int.reduceToNat, List.size_toArray, tyF, MM, bu0, ipure, kpure, tpure, sspure, kset, tset, ksnoc, tsnoc, Kind.av, Twist.sl, Twist.tr, Invar.av, Timer.av]
    simp [applyT, Timer.av]
set_option maxHeartbeats 4000000 in
theorem iTimed3 (l i d st sp p : Int) (f : Bool) (k a : Int) (h0 : 0 ≤ l) (h1 : l ≤ a) (h2 : a ≤ 360000) : SpecAt Try.prog 78 [(⟨3, l, i, d, st, sp, p, f⟩ : Timer).av, (⟨k, a⟩ : TEvent).av] (appR ⟨3, l, i, d, st, sp, p, f⟩ k a) := by
  unfold appR
  rcases kinds8 k with rfl | rfl | rfl | rfl | rfl | rfl | rfl | ⟨n1, n2, n3, n4, n5, n6, n7⟩
  all_goals (refine spec_of_awp_any (M := MM) (np := 2) (X := [5, 7, 11]) (fz := true) mixed Try.func78 rfl rfl (by decide) rfl (Nat.le_refl _) (by decide +kernel) (.inr ⟨rfl, rfl⟩) trivial ?_)
  all_goals (simp -dsimp -implicitDefEqProofs (disch := first | omega | (simp only [lenr]; done) | (simp only [lenr]; omega)) only [↓amPre, amAll, ↓reduceIte, reduceCtorEq, Nat.reduceEqDiff, Nat.reduceBEq, Nat.reduceAdd, Nat.reduceLeDiff, Nat.reduceSub, Nat.reduceMul, Int.reduceToNat, List.size_toArray, tyF, MM, bu0, ipure, kpure, tpure, sspure, kset, tset, ksnoc, tsnoc, Kind.av, Twist.sl, Twist.tr, Invar.av, Timer.av, TEvent.av])
  all_goals (try (simp [applyT, Timer.av, *]; done))
  · refine any_go tree11 (fun st' => st'.fr 6 = .loc 6 [] 0 0 ∧ st'.fr 4 = .loc 4 [] 0 0 ∧ st'.mem 4 = some (.pt 8 z8) ∧ st'.mem 6 = some (.pt 8 (.agg [.i64 4, .i64 a, .i64 i, .i64 d, .i64 st, .i64 a, .i64 p, .bl f]))) (by decide +kernel) ?_ ?_
    · unfold tree11
      simp -dsimp -implicitDefEqProofs (disch := first | omega | (simp only [lenr]; done) | (simp only [lenr]; omega)) only [↓amPre, amAll, ↓reduceIte, reduceCtorEq, Nat.reduceEqDiff, Nat.reduceBEq, Nat.reduceAdd, Nat.reduceLeDiff, Nat.reduceSub, Nat.reduceMul, Int.reduceToNat, List.size_toArray, tyF, MM, bu0, ipure, kpure, tpure, sspure, kset, tset, ksnoc, tsnoc, Kind.av, Twist.sl, Twist.tr, Invar.av]
    · rintro st' ⟨q6, q4, qm4, qm⟩
      simp -dsimp -implicitDefEqProofs (disch := first | omega | (simp only [lenr]; done) | (simp only [lenr]; omega)) only [↓amPre, amAll, ↓reduceIte, reduceCtorEq, Nat.reduceEqDiff, Nat.reduceBEq, Nat.reduceAdd, Nat.reduceLeDiff, Nat.reduceSub, Nat.reduceMul, Int.reduceToNat, List.size_toArray, tyF, MM, bu0, ipure, kpure, tpure, sspure, kset, tset, ksnoc, tsnoc, Kind.av, Twist.sl, Twist.tr, Invar.av, q6, q4, qm4, qm, Timer.av]
      simp [applyT, Timer.av]
  · refine callP_of (abandoned_spec ⟨3, l, i, d, st, sp, p, f⟩ a) ?_
    simp -dsimp -implicitDefEqProofs (disch := first | omega | (simp only [lenr]; done) | (simp only [lenr]; omega)) only [↓amPre, amAll, ↓reduceIte, reduceCtorEq, Nat.reduceEqDiff, Nat.reduceBEq, Nat.reduceAdd, Nat.reduceLeDiff, Nat.reduceSub, Nat.reduceMul, Int.reduceToNat, List.size_toArray, tyF, MM, bu0, ipure, kpure, tpure, sspure, kset, tset, ksnoc, tsnoc, Kind.av, Twist.sl, Twist.tr, Invar.av, Timer.av]
    simp [applyT, Timer.av]
set_option maxHeartbeats 4000000 in
theorem iTimed4 (l i d st sp p : Int) (f : Bool) (k a : Int) (h0 : 0 ≤ l) (h1 : l ≤ a) (h2 : a ≤ 360000) (h3 : 0 ≤ p) (h4 : p ≤ 2000) : SpecAt Try.prog 78 [(⟨4, l, i, d, st, sp, p, f⟩ : Timer).av, (⟨k, a⟩ : TEvent).av] (appR ⟨4, l, i, d, st, sp, p, f⟩ k a) := by
  unfold appR
  rcases kinds8 k with rfl | rfl | rfl | rfl | rfl | rfl | rfl | ⟨n1, n2, n3, n4, n5, n6, n7⟩
  all_goals (refine spec_of_awp_any (M := MM) (np := 2) (X := [5, 7, 11]) (fz := true) mixed Try.func78 rfl rfl (by decide) rfl (Nat.le_refl _) (by decide +kernel) (.inr ⟨rfl, rfl⟩) trivial ?_)
  all_goals (simp -dsimp -implicitDefEqProofs (disch := first | omega | (simp only [lenr]; done) | (simp only [lenr]; omega)) only [↓amPre, amAll, ↓reduceIte, reduceCtorEq, Nat.reduceEqDiff, Nat.reduceBEq, Nat.reduceAdd, Nat.reduceLeDiff, Nat.reduceSub, Nat.reduceMul, Int.reduceToNat, List.size_toArray, tyF, MM, bu0, ipure, kpure, tpure, sspure, kset, tset, ksnoc, tsnoc, Kind.av, Twist.sl, Twist.tr, Invar.av, Timer.av, TEvent.av])
  all_goals (try (simp [applyT, Timer.av, *]; done))
  · cases f with
    | true =>
      simp -dsimp -implicitDefEqProofs (disch := first | omega | (simp only [lenr]; done) | (simp only [lenr]; omega)) only [↓amPre, amAll, ↓reduceIte, reduceCtorEq, Nat.reduceEqDiff, Nat.reduceBEq, Nat.reduceAdd, Nat.reduceLeDiff, Nat.reduceSub, Nat.reduceMul, Int.reduceToNat, List.size_toArray, tyF, MM, bu0, ipure, kpure, tpure, sspure, kset, tset, ksnoc, tsnoc, Kind.av, Twist.sl, Twist.tr, Invar.av, Timer.av]
      simp [applyT, Timer.av]
    | false =>
      simp -dsimp -implicitDefEqProofs (disch := first | omega | (simp only [lenr]; done) | (simp only [lenr]; omega)) only [↓amPre, amAll, ↓reduceIte, reduceCtorEq, Nat.reduceEqDiff, Nat.reduceBEq, Nat.reduceAdd, Nat.reduceLeDiff, Nat.reduceSub, Nat.reduceMul, Int.reduceToNat, List.size_toArray, tyF, MM, bu0, ipure, kpure, tpure, sspure, kset, tset, ksnoc, tsnoc, Kind.av, Twist.sl, Twist.tr, Invar.av, Timer.av]
      refine ifP_mk ?_ ?_ <;> intro q
      · have q' : p < 2000 := by simpa using q
        simp -dsimp -implicitDefEqProofs (disch := first | omega | (simp only [lenr]; done) | (simp only [lenr]; omega)) only [↓amPre, amAll, ↓reduceIte, reduceCtorEq, Nat.reduceEqDiff, Nat.reduceBEq, Nat.reduceAdd, Nat.reduceLeDiff, Nat.reduceSub, Nat.reduceMul, Int.reduceToNat, List.size_toArray, tyF, MM, bu0, ipure, kpure, tpure, sspure, kset, tset, ksnoc, tsnoc, Kind.av, Twist.sl, Twist.tr, Invar.av, q, Timer.av]
        simp [applyT, Timer.av, q']
      · have q' : ¬ p < 2000 := by simpa using q
        simp -dsimp -implicitDefEqProofs (disch := first | omega | (simp only [lenr]; done) | (simp only [lenr]; omega)) only [↓amPre, amAll, ↓reduceIte, reduceCtorEq, Nat.reduceEqDiff, Nat.reduceBEq, Nat.reduceAdd, Nat.reduceLeDiff, Nat.reduceSub, Nat.reduceMul, Int.reduceToNat, List.size_toArray, tyF, MM, bu0, ipure, kpure, tpure, sspure, kset, tset, ksnoc, tsnoc, Kind.av, Twist.sl, Twist.tr, Invar.av, q, Timer.av]
        simp [applyT, Timer.av, q']
  · refine callP_of (abandoned_spec ⟨4, l, i, d, st, sp, p, f⟩ a) ?_
    simp -dsimp -implicitDefEqProofs (disch := first | omega | (simp only [lenr]; done) | (simp only [lenr]; omega)) only [↓amPre, amAll, ↓reduceIte, reduceCtorEq, Nat.reduceEqDiff, Nat.reduceBEq, Nat.reduceAdd, Nat.reduceLeDiff, Nat.reduceSub, Nat.reduceMul, Int.reduceToNat, List.size_toArray, tyF, MM, bu0, ipure, kpure, tpure, sspure, kset, tset, ksnoc, tsnoc, Kind.av, Twist.sl, Twist.tr, Invar.av, Timer.av]
    simp [applyT, Timer.av]
end Go.AM

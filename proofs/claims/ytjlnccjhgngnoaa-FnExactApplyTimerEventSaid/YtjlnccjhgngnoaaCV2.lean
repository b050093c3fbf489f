/-
  CONTRACTS of functions of the program, and what they compute, by content.
-/
import Derived.Test.YtjlnccjhgngnoaaCV1
set_option linter.unusedVariables false
set_option linter.unusedSimpArgs false
set_option maxRecDepth 8000
namespace Go.AM
open Go.Proofs
structure TEvent where
  kind : Int
  at' : Int
  deriving DecidableEq
def TEvent.cs (e : TEvent) : List AV := [.i64 e.kind, .i64 e.at']
def TEvent.av (e : TEvent) : AV := .agg [.i64 e.kind, .i64 e.at']
def applyT (t : Timer) (k a : Int) : Timer × Bool :=
  if k = 1 ∧ t.phase = 0 then (⟨1, a, a, 0, 0, 0, 0, false⟩, true) else
  if k = 2 ∧ t.phase = 1 then (⟨2, a, t.inspect, a, 0, 0, 0, false⟩, true) else
  if k = 3 ∧ t.phase = 2 then (if a - t.down < 55 then ⟨1, a, t.inspect, 0, 0, 0, 0, false⟩ else started a t.inspect, true) else
  if k = 4 ∧ t.phase = 3 then (⟨4, a, t.inspect, t.down, t.start, a, t.pen, t.failed⟩, true) else
  if k = 5 ∧ t.phase = 4 ∧ t.failed = false ∧ t.pen < 2000 then (⟨4, a, t.inspect, t.down, t.start, t.stop, t.pen + 200, false⟩, true) else
  if k = 6 ∧ t.phase = 3 then (⟨4, a, t.inspect, 0, t.start, a, 0, true⟩, true) else
  if k = 6 ∧ (t.phase = 1 ∨ t.phase = 2) then (⟨4, a, t.inspect, 0, 0, 0, 0, true⟩, true) else
  if k = 7 ∧ t.phase = 4 then (⟨0, a, 0, 0, 0, 0, 0, false⟩, true) else (t, false)

theorem toEvent_spec (e : TEvent) : SpecAt Try.prog 49 [e.av] e.av := by
  refine spec_of_awp (M := MM) (np := 1) (fz := true) mixed Try.func49 rfl rfl (by decide) rfl (Nat.le_refl _) (by decide +kernel) (.inr ⟨rfl, rfl⟩) trivial ?_
  simp -dsimp -implicitDefEqProofs (disch := first | omega | (simp only [lenr]; done) | (simp only [lenr]; omega)) only [↓amPre, amAll, ↓reduceIte, reduceCtorEq, Nat.reduceEqDiff, Nat.reduceBEq, Nat.reduceAdd, Nat.reduceLeDiff, Nat.reduceSub, Nat.reduceMul, Int.reduceToNat, List.size_toArray, tyF, MM, bu0, ipure, kpure, tpure, sspure, kset, tset, ksnoc, tsnoc, Kind.av, Twist.sl, Twist.tr, Invar.av, TEvent.av]
theorem handsUp_spec (t : Timer) (a : Int) (h0 : 0 ≤ t.inspect) (h1 : t.inspect ≤ a) (h2 : a ≤ 360000) (hd : 0 ≤ t.down) (hd' : t.down ≤ a) : SpecAt Try.prog 83 [t.av, .i64 a] (if a - t.down < 55 then (⟨1, a, t.inspect, 0, 0, 0, 0, false⟩ : Timer) else started a t.inspect).av := by
  by_cases hc : a - t.down < 55
  · rw [if_pos hc]
    refine spec_of_awp (M := MM) (np := 2) (fz := true) mixed Try.func83 rfl rfl (by decide) rfl (Nat.le_refl _) (by decide +kernel) (.inr ⟨rfl, rfl⟩) trivial ?_
    simp -dsimp -implicitDefEqProofs (disch := first | omega | (simp only [lenr]; done) | (simp only [lenr]; omega)) only [↓amPre, amAll, ↓reduceIte, reduceCtorEq, Nat.reduceEqDiff, Nat.reduceBEq, Nat.reduceAdd, Nat.reduceLeDiff, Nat.reduceSub, Nat.reduceMul, Int.reduceToNat, List.size_toArray, tyF, MM, bu0, ipure, kpure, tpure, sspure, kset, tset, ksnoc, tsnoc, Kind.av, Twist.sl, Twist.tr, Invar.av, Timer.av, hc]
  · rw [if_neg hc]
    refine spec_of_awp (M := MM) (np := 2) (fz := true) mixed Try.func83 rfl rfl (by decide) rfl (Nat.le_refl _) (by decide +kernel) (.inr ⟨rfl, rfl⟩) trivial ?_
    simp -dsimp -implicitDefEqProofs (disch := first | omega | (simp only [lenr]; done) | (simp only [lenr]; omega)) only [↓amPre, amAll, ↓reduceIte, reduceCtorEq, Nat.reduceEqDiff, Nat.reduceBEq, Nat.reduceAdd, Nat.reduceLeDiff, Nat.reduceSub, Nat.reduceMul, Int.reduceToNat, List.size_toArray, tyF, MM, bu0, ipure, kpure, tpure, sspure, kset, tset, ksnoc, tsnoc, Kind.av, Twist.sl, Twist.tr, Invar.av, Timer.av, hc]
    refine callP_of (started_spec _ _ h0 h1 h2) ?_
    simp -dsimp -implicitDefEqProofs (disch := first | omega | (simp only [lenr]; done) | (simp only [lenr]; omega)) only [↓amPre, amAll, ↓reduceIte, reduceCtorEq, Nat.reduceEqDiff, Nat.reduceBEq, Nat.reduceAdd, Nat.reduceLeDiff, Nat.reduceSub, Nat.reduceMul, Int.reduceToNat, List.size_toArray, tyF, MM, bu0, ipure, kpure, tpure, sspure, kset, tset, ksnoc, tsnoc, Kind.av, Twist.sl, Twist.tr, Invar.av, Timer.av]
theorem abandoned_spec (t : Timer) (a : Int) : SpecAt Try.prog 84 [t.av, .i64 a] (.tup [(if t.phase = 1 ∨ t.phase = 2 then (⟨4, a, t.inspect, 0, 0, 0, 0, true⟩ : Timer) else if t.phase = 3 then ⟨4, a, t.inspect, 0, t.start, a, 0, true⟩ else t).av, .bl (decide (t.phase = 1 ∨ t.phase = 2 ∨ t.phase = 3))]) := by
  refine spec_of_awp (M := MM) (np := 2) (fz := true) mixed Try.func84 rfl rfl (by decide) rfl (Nat.le_refl _) (by decide +kernel) (.inr ⟨rfl, rfl⟩) trivial ?_
  simp -dsimp -implicitDefEqProofs (disch := first | omega | (simp only [lenr]; done) | (simp only [lenr]; omega)) only [↓amPre, amAll, ↓reduceIte, reduceCtorEq, Nat.reduceEqDiff, Nat.reduceBEq, Nat.reduceAdd, Nat.reduceLeDiff, Nat.reduceSub, Nat.reduceMul, Int.reduceToNat, List.size_toArray, tyF, MM, bu0, ipure, kpure, tpure, sspure, kset, tset, ksnoc, tsnoc, Kind.av, Twist.sl, Twist.tr, Invar.av, Timer.av]
  all_goals (try (first | refine ifP_mk ?_ ?_ <;> intro _))
  all_goals (try (simp -dsimp -implicitDefEqProofs (disch := first | omega | (simp only [lenr]; done) | (simp only [lenr]; omega)) only [↓amPre, amAll, ↓reduceIte, reduceCtorEq, Nat.reduceEqDiff, Nat.reduceBEq, Nat.reduceAdd, Nat.reduceLeDiff, Nat.reduceSub, Nat.reduceMul, Int.reduceToNat, List.size_toArray, tyF, MM, bu0, ipure, kpure, tpure, sspure, kset, tset, ksnoc, tsnoc, Kind.av, Twist.sl, Twist.tr, Invar.av, *, Timer.av]))
  all_goals (try (first | refine ifP_mk ?_ ?_ <;> intro _))
  all_goals (try (simp -dsimp -implicitDefEqProofs (disch := first | omega | (simp only [lenr]; done) | (simp only [lenr]; omega)) only [↓amPre, amAll, ↓reduceIte, reduceCtorEq, Nat.reduceEqDiff, Nat.reduceBEq, Nat.reduceAdd, Nat.reduceLeDiff, Nat.reduceSub, Nat.reduceMul, Int.reduceToNat, List.size_toArray, tyF, MM, bu0, ipure, kpure, tpure, sspure, kset, tset, ksnoc, tsnoc, Kind.av, Twist.sl, Twist.tr, Invar.av, *, Timer.av]))
  all_goals (try (first | refine ifP_mk ?_ ?_ <;> intro _))
  all_goals (try (simp -dsimp -implicitDefEqProofs (disch := first | omega | (simp only [lenr]; done) | (simp only [lenr]; omega)) only [↓amPre, amAll, ↓reduceIte, reduceCtorEq, Nat.reduceEqDiff, Nat.reduceBEq, Nat.reduceAdd, Nat.reduceLeDiff, Nat.reduceSub, Nat.reduceMul, Int.reduceToNat, List.size_toArray, tyF, MM, bu0, ipure, kpure, tpure, sspure, kset, tset, ksnoc, tsnoc, Kind.av, Twist.sl, Twist.tr, Invar.av, *, Timer.av]))
  all_goals simp_all [Timer.av]
theorem valid_bounds {t : Timer} (h : validT t = true) : 0 ≤ t.inspect ∧ t.inspect ≤ t.last ∧ t.last ≤ 360000 ∧ (t.phase = 2 → t.down = t.last) ∧ (t.phase = 0 → t = ⟨0, t.last, 0, 0, 0, 0, 0, false⟩) ∧ (t.phase = 1 → t = ⟨1, t.last, t.inspect, 0, 0, 0, 0, false⟩) ∧ (t.phase = 2 → t = ⟨2, t.last, t.inspect, t.last, 0, 0, 0, false⟩) ∧ (t.phase = 4 → 0 ≤ t.pen ∧ t.pen ≤ 2000) ∧ (t.phase = 0 ∨ t.phase = 1 ∨ t.phase = 2 ∨ t.phase = 3 ∨ t.phase = 4) := by
  unfold validT at h
  simp only [Bool.and_eq_true] at h
  obtain ⟨⟨h1, h2⟩, h3⟩ := h
  simp [within] at h1 h2
  refine ⟨by omega, by omega, by omega, ?_⟩
  split at h3
  · rename_i hp; simp at h3; refine ⟨by omega, fun _ => h3, by omega, by omega, by omega, by omega⟩
  · split at h3
    · rename_i hp; simp at h3; refine ⟨by omega, by omega, fun _ => h3, by omega, by omega, by omega⟩
    · split at h3
      · rename_i hp; simp at h3; refine ⟨fun _ => by rw [h3], by omega, by omega, fun _ => h3, by omega, by omega⟩
      · split at h3
        · refine ⟨by omega, by omega, by omega, by omega, by omega, by omega⟩
        · split at h3
          · simp [stoppedOk, within] at h3
            refine ⟨by omega, by omega, by omega, by omega, by omega, by omega⟩
          · cases h3
def tree5 : OT := (.alt 0 (.alt 1 (.alt 2 (.alt 3 (.alt 4 (.alt 5 .done .stop) .stop) .stop) .stop) (.alt 2 (.alt 1 (.alt 3 (.alt 4 (.alt 5 .done .stop) .stop) .stop) (.alt 3 (.alt 1 (.alt 4 (.alt 5 .done .stop) .stop) .stop) .stop)) .stop)) (.alt 2 (.alt 0 (.alt 1 (.alt 3 (.alt 4 (.alt 5 .done .stop) .stop) .stop) (.alt 3 (.alt 1 (.alt 4 (.alt 5 .done .stop) .stop) .stop) .stop)) (.alt 3 (.alt 0 (.alt 1 (.alt 4 (.alt 5 .done .stop) .stop) .stop) .stop) .stop)) .stop))
def tree7 : OT := (.alt 0 (.alt 1 (.alt 2 (.alt 3 (.alt 4 (.alt 5 .done .stop) .stop) .stop) .stop) (.alt 2 (.alt 1 (.alt 3 (.alt 4 (.alt 5 .done .stop) .stop) .stop) (.alt 3 (.alt 1 (.alt 4 (.alt 5 .done .stop) .stop) .stop) .stop)) .stop)) (.alt 2 (.alt 0 (.alt 1 (.alt 3 (.alt 4 (.alt 5 .done .stop) .stop) .stop) (.alt 3 (.alt 1 (.alt 4 (.alt 5 .done .stop) .stop) .stop) .stop)) (.alt 3 (.alt 0 (.alt 1 (.alt 4 (.alt 5 .done .stop) .stop) .stop) .stop) .stop)) .stop))
def tree11 : OT := (.alt 0 (.alt 1 (.alt 2 (.alt 3 (.alt 4 (.alt 5 .done .stop) .stop) .stop) .stop) (.alt 2 (.alt 1 (.alt 3 (.alt 4 (.alt 5 .done .stop) .stop) .stop) (.alt 3 (.alt 1 (.alt 4 (.alt 5 .done .stop) .stop) .stop) .stop)) .stop)) (.alt 2 (.alt 0 (.alt 1 (.alt 3 (.alt 4 (.alt 5 .done .stop) .stop) .stop) (.alt 3 (.alt 1 (.alt 4 (.alt 5 .done .stop) .stop) .stop) .stop)) (.alt 3 (.alt 0 (.alt 1 (.alt 4 (.alt 5 .done .stop) .stop) .stop) .stop) .stop)) .stop))

def appR (t : Timer) (k a : Int) : AV := .tup [(applyT t k a).1.av, .bl (applyT t k a).2]
abbrev z8 : AV := .agg [.i64 0, .i64 0, .i64 0, .i64 0, .i64 0, .i64 0, .i64 0, .bl false]
/-- the kinds of events, one by one -/
theorem kinds8 (k : Int) : k = 1 ∨ k = 2 ∨ k = 3 ∨ k = 4 ∨ k = 5 ∨ k = 6 ∨ k = 7 ∨ (k ≠ 1 ∧ k ≠ 2 ∧ k ≠ 3 ∧ k ≠ 4 ∧ k ≠ 5 ∧ k ≠ 6 ∧ k ≠ 7) := by omega
set_option maxHeartbeats 4000000 in
theorem sApply0 (l : Int) (k a : Int) (h0 : 0 ≤ l) (h1 : l ≤ a) (h2 : a ≤ 360000) : SpecAt Try.prog 77 [(⟨0, l, 0, 0, 0, 0, 0, false⟩ : Timer).av, (⟨k, a⟩ : TEvent).av] (appR ⟨0, l, 0, 0, 0, 0, 0, false⟩ k a) := by
  unfold appR
  rcases kinds8 k with rfl | rfl | rfl | rfl | rfl | rfl | rfl | ⟨n1, n2, n3, n4, n5, n6, n7⟩
  all_goals (refine spec_of_awp (M := MM) (np := 2) (fz := true) mixed Try.func77 rfl rfl (by decide) rfl (Nat.le_refl _) (by decide +kernel) (.inr ⟨rfl, rfl⟩) trivial ?_)
  all_goals (simp -dsimp -implicitDefEqProofs (disch := first | omega | (simp only [lenr]; done) | (simp only [lenr]; omega)) only [↓amPre, amAll, ↓reduceIte, reduceCtorEq, Nat.reduceEqDiff, Nat.reduceBEq, Nat.reduceAdd, Nat.reduceLeDiff, Nat.reduceSub, Nat.reduceMul, Int.reduceToNat, List.size_toArray, tyF, MM, bu0, ipure, kpure, tpure, sspure, kset, tset, ksnoc, tsnoc, Kind.av, Twist.sl, Twist.tr, Invar.av, Timer.av, TEvent.av])
  all_goals (try (simp [applyT, Timer.av, *]; done))
set_option maxHeartbeats 4000000 in
theorem sApply1 (l i : Int) (k a : Int) (h0 : 0 ≤ l) (h1 : l ≤ a) (h2 : a ≤ 360000) : SpecAt Try.prog 77 [(⟨1, l, i, 0, 0, 0, 0, false⟩ : Timer).av, (⟨k, a⟩ : TEvent).av] (appR ⟨1, l, i, 0, 0, 0, 0, false⟩ k a) := by
  unfold appR
  rcases kinds8 k with rfl | rfl | rfl | rfl | rfl | rfl | rfl | ⟨n1, n2, n3, n4, n5, n6, n7⟩
  all_goals (refine spec_of_awp (M := MM) (np := 2) (fz := true) mixed Try.func77 rfl rfl (by decide) rfl (Nat.le_refl _) (by decide +kernel) (.inr ⟨rfl, rfl⟩) trivial ?_)
  all_goals (simp -dsimp -implicitDefEqProofs (disch := first | omega | (simp only [lenr]; done) | (simp only [lenr]; omega)) only [↓amPre, amAll, ↓reduceIte, reduceCtorEq, Nat.reduceEqDiff, Nat.reduceBEq, Nat.reduceAdd, Nat.reduceLeDiff, Nat.reduceSub, Nat.reduceMul, Int.reduceToNat, List.size_toArray, tyF, MM, bu0, ipure, kpure, tpure, sspure, kset, tset, ksnoc, tsnoc, Kind.av, Twist.sl, Twist.tr, Invar.av, Timer.av, TEvent.av])
  all_goals (try (simp [applyT, Timer.av, *]; done))
set_option maxHeartbeats 4000000 in
theorem sApply2 (l i : Int) (k a : Int) (h0 : 0 ≤ l) (h1 : l ≤ a) (h2 : a ≤ 360000) (h3 : 0 ≤ i) (h4 : i ≤ l) : SpecAt Try.prog 77 [(⟨2, l, i, l, 0, 0, 0, false⟩ : Timer).av, (⟨k, a⟩ : TEvent).av] (appR ⟨2, l, i, l, 0, 0, 0, false⟩ k a) := by
  unfold appR
  rcases kinds8 k with rfl | rfl | rfl | rfl | rfl | rfl | rfl | ⟨n1, n2, n3, n4, n5, n6, n7⟩
  all_goals (refine spec_of_awp (M := MM) (np := 2) (fz := true) mixed Try.func77 rfl rfl (by decide) rfl (Nat.le_refl _) (by decide +kernel) (.inr ⟨rfl, rfl⟩) trivial ?_)
  all_goals (simp -dsimp -implicitDefEqProofs (disch := first | omega | (simp only [lenr]; done) | (simp only [lenr]; omega)) only [↓amPre, amAll, ↓reduceIte, reduceCtorEq, Nat.reduceEqDiff, Nat.reduceBEq, Nat.reduceAdd, Nat.reduceLeDiff, Nat.reduceSub, Nat.reduceMul, Int.reduceToNat, List.size_toArray, tyF, MM, bu0, ipure, kpure, tpure, sspure, kset, tset, ksnoc, tsnoc, Kind.av, Twist.sl, Twist.tr, Invar.av, Timer.av, TEvent.av])
  all_goals (try (simp [applyT, Timer.av, *]; done))
  refine ifP_mk ?_ ?_ <;> intro q
  · have q' : a - l < 55 := by simpa using q
    simp -dsimp -implicitDefEqProofs (disch := first | omega | (simp only [lenr]; done) | (simp only [lenr]; omega)) only [↓amPre, amAll, ↓reduceIte, reduceCtorEq, Nat.reduceEqDiff, Nat.reduceBEq, Nat.reduceAdd, Nat.reduceLeDiff, Nat.reduceSub, Nat.reduceMul, Int.reduceToNat, List.size_toArray, tyF, MM, bu0, ipure, kpure, tpure, sspure, kset, tset, ksnoc, tsnoc, Kind.av, Twist.sl, Twist.tr, Invar.av, q, Timer.av]
    simp [applyT, Timer.av, q']
  · have q' : ¬ a - l < 55 := by simpa using q
    simp -dsimp -implicitDefEqProofs (disch := first | omega | (simp only [lenr]; done) | (simp only [lenr]; omega)) only [↓amPre, amAll, ↓reduceIte, reduceCtorEq, Nat.reduceEqDiff, Nat.reduceBEq, Nat.reduceAdd, Nat.reduceLeDiff, Nat.reduceSub, Nat.reduceMul, Int.reduceToNat, List.size_toArray, tyF, MM, bu0, ipure, kpure, tpure, sspure, kset, tset, ksnoc, tsnoc, Kind.av, Twist.sl, Twist.tr, Invar.av, q, Timer.av]
    refine callP_of (running_spec _ _ h3 (by omega) h2) ?_
    simp -dsimp -implicitDefEqProofs (disch := first | omega | (simp only [lenr]; done) | (simp only [lenr]; omega)) only [↓amPre, amAll, ↓reduceIte, reduceCtorEq, Nat.reduceEqDiff, Nat.reduceBEq, Nat.reduceAdd, Nat.reduceLeDiff, Nat.reduceSub, Nat.reduceMul, Int.reduceToNat, List.size_toArray, tyF, MM, bu0, ipure, kpure, tpure, sspure, kset, tset, ksnoc, tsnoc, Kind.av, Twist.sl, Twist.tr, Invar.av, Timer.av]
    simp [applyT, Timer.av, q']
set_option maxHeartbeats 4000000 in
theorem sApply3 (l i d st sp p : Int) (f : Bool) (k a : Int) (h0 : 0 ≤ l) (h1 : l ≤ a) (h2 : a ≤ 360000) : SpecAt Try.prog 77 [(⟨3, l, i, d, st, sp, p, f⟩ : Timer).av, (⟨k, a⟩ : TEvent).av] (appR ⟨3, l, i, d, st, sp, p, f⟩ k a) := by
  unfold appR
  rcases kinds8 k with rfl | rfl | rfl | rfl | rfl | rfl | rfl | ⟨n1, n2, n3, n4, n5, n6, n7⟩
  all_goals (refine spec_of_awp (M := MM) (np := 2) (fz := true) mixed Try.func77 rfl rfl (by decide) rfl (Nat.le_refl _) (by decide +kernel) (.inr ⟨rfl, rfl⟩) trivial ?_)
  all_goals (simp -dsimp -implicitDefEqProofs (disch := first | omega | (simp only [lenr]; done) | (simp only [lenr]; omega)) only [↓amPre, amAll, ↓reduceIte, reduceCtorEq, Nat.reduceEqDiff, Nat.reduceBEq, Nat.reduceAdd, Nat.reduceLeDiff, Nat.reduceSub, Nat.reduceMul, Int.reduceToNat, List.size_toArray, tyF, MM, bu0, ipure, kpure, tpure, sspure, kset, tset, ksnoc, tsnoc, Kind.av, Twist.sl, Twist.tr, Invar.av, Timer.av, TEvent.av])
  all_goals (try (simp [applyT, Timer.av, *]; done))
set_option maxHeartbeats 4000000 in
theorem sApply4 (l i d st sp p : Int) (f : Bool) (k a : Int) (h0 : 0 ≤ l) (h1 : l ≤ a) (h2 : a ≤ 360000) (h3 : 0 ≤ p) (h4 : p ≤ 2000) : SpecAt Try.prog 77 [(⟨4, l, i, d, st, sp, p, f⟩ : Timer).av, (⟨k, a⟩ : TEvent).av] (appR ⟨4, l, i, d, st, sp, p, f⟩ k a) := by
  unfold appR
  rcases kinds8 k with rfl | rfl | rfl | rfl | rfl | rfl | rfl | ⟨n1, n2, n3, n4, n5, n6, n7⟩
  all_goals (refine spec_of_awp (M := MM) (np := 2) (fz := true) mixed Try.func77 rfl rfl (by decide) rfl (Nat.le_refl _) (by decide +kernel) (.inr ⟨rfl, rfl⟩) trivial ?_)
  all_goals (simp -dsimp -implicitDefEqProofs (disch := first | omega | (simp only [lenr]; done) | (simp only [lenr]; omega)) only [↓amPre, amAll, ↓reduceIte, reduceCtorEq, Nat.reduceEqDiff, Nat.reduceBEq, Nat.reduceAdd, Nat.reduceLeDiff, Nat.reduceSub, Nat.reduceMul, Int.reduceToNat, List.size_toArray, tyF, MM, bu0, ipure, kpure, tpure, sspure, kset, tset, ksnoc, tsnoc, Kind.av, Twist.sl, Twist.tr, Invar.av, Timer.av, TEvent.av])
  all_goals (try (simp [applyT, Timer.av, *]; done))
  cases f with
  | true =>
    simp -dsimp -implicitDefEqProofs (disch := first | omega | (simp only [lenr]; done) | (simp only [lenr]; omega)) only [↓amPre, amAll, ↓reduceIte, reduceCtorEq, Nat.reduceEqDiff, Nat.reduceBEq, Nat.reduceAdd, Nat.reduceLeDiff, Nat.reduceSub, Nat.reduceMul, Int.reduceToNat, List.size_toArray, tyF, MM, bu0, ipure, kpure, tpure, sspure, kset, tset, ksnoc, tsnoc, Kind.av, Twist.sl, Twist.tr, Invar.av, Timer.av]
    simp [applyT, Timer.av]
  | false =>
    simp -dsimp -implicitDefEqProofs (disch := first | omega | (simp only [lenr]; done) | (simp only [lenr]; omega)) only [↓amPre, amAll, ↓reduceIte, reduceCtorEq, Nat.reduceEqDiff, Nat.reduceBEq, Nat.reduceAdd, Nat.reduceLeDiff, Nat.reduceSub, Nat.reduceMul, Int.reduceToNat, List.size_toArray, tyF, MM, bu0, ipure, kpure, tpure, sspure, kset, tset, ksnoc, tsnoc, Kind.av, Twist.sl, Twist.tr, Invar.av, Timer.av]
    refine ifP_mk ?_ ?_ <;> intro q
    · have q' : p < 2000 := by simpa using q
      simp -dsimp -implicitDefEqProofs (disch := first | omega | (simp only [lenr]; done) | (simp only [lenr]; omega)) only [↓amPre, amAll, ↓reduceIte, reduceCtorEq, Nat.reduceEqDiff, Nat.reduceBEq, Nat.reduceAdd, Nat.reduceLeDiff, Nat.reduceSub, Nat.reduceMul, Int.reduceToNat, List.size_toArray, tyF, MM, bu0, ipure, kpure, tpure, sspure, kset, tset, ksnoc, tsnoc, Kind.av, Twist.sl, Twist.tr, Invar.av, q, Timer.av]
      simp [applyT, Timer.av, q']
    · have q' : ¬ p < 2000 := by simpa using q
      simp -dsimp -implicitDefEqProofs (disch := first | omega | (simp only [lenr]; done) | (simp only [lenr]; omega)) only [↓amPre, amAll, ↓reduceIte, reduceCtorEq, Nat.reduceEqDiff, Nat.reduceBEq, Nat.reduceAdd, Nat.reduceLeDiff, Nat.reduceSub, Nat.reduceMul, Int.reduceToNat, List.size_toArray, tyF, MM, bu0, ipure, kpure, tpure, sspure, kset, tset, ksnoc, tsnoc, Kind.av, Twist.sl, Twist.tr, Invar.av, q, Timer.av]
      simp [applyT, Timer.av, q']
end Go.AM

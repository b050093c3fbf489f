/-
  CONTRACTS of functions of the program, and what they compute, by content.
-/
import Derived.Test.YtjlnccjhgngnoaaCV3
set_option linter.unusedVariables false
set_option linter.unusedSimpArgs false
set_option maxRecDepth 8000
namespace Go.AM
open Go.Proofs
theorem apply_cases {t : Timer} (hv : validT t = true) (P : Timer → Prop)
    (c0 : ∀ l, 0 ≤ l → l = t.last → P ⟨0, l, 0, 0, 0, 0, 0, false⟩) (c1 : ∀ l i, 0 ≤ l → l = t.last → P ⟨1, l, i, 0, 0, 0, 0, false⟩)
    (c2 : ∀ l i, 0 ≤ i → i ≤ l → l = t.last → P ⟨2, l, i, l, 0, 0, 0, false⟩) (c3 : ∀ l i d st sp p f, 0 ≤ l → l = t.last → P ⟨3, l, i, d, st, sp, p, f⟩)
    (c4 : ∀ l i d st sp p f, 0 ≤ l → l = t.last → 0 ≤ p → p ≤ 2000 → P ⟨4, l, i, d, st, sp, p, f⟩) : P t := by
  obtain ⟨b1, b2, b3, b4, b5, b6, b7, b8, b9⟩ := valid_bounds hv
  rcases b9 with hp | hp | hp | hp | hp
  · rw [b5 hp]; exact c0 _ (by omega) rfl
  · rw [b6 hp]; exact c1 _ _ (by omega) rfl
  · rw [b7 hp]; exact c2 _ _ b1 b2 rfl
  · obtain ⟨ph, la, ins, dn, sta, sto, pen, fl⟩ := t
    simp only at hp; subst hp
    exact c3 _ _ _ _ _ _ _ (by simp only at b1 b2; omega) rfl
  · obtain ⟨ph, la, ins, dn, sta, sto, pen, fl⟩ := t
    simp only at hp; subst hp
    exact c4 _ _ _ _ _ _ _ (by simp only at b1 b2; omega) rfl (b8 rfl).1 (b8 rfl).2
theorem iTimed (t : Timer) (e : TEvent) (hv : validT t = true) (h1 : t.last ≤ e.at') (h2 : e.at' ≤ 360000) : SpecAt Try.prog 78 [t.av, e.av] (appR t e.kind e.at') := by
  refine apply_cases hv (fun s => SpecAt Try.prog 78 [s.av, e.av] (appR s e.kind e.at')) ?_ ?_ ?_ ?_ ?_
  · intro l h0 hl; exact iTimed0 l e.kind e.at' h0 (by omega) h2
  · intro l i h0 hl; exact iTimed1 l i e.kind e.at' h0 (by omega) h2
  · intro l i h0 hi hl; exact iTimed2 l i e.kind e.at' (by omega) (by omega) h2 h0 hi
  · intro l i d st sp p f h0 hl; exact iTimed3 l i d st sp p f e.kind e.at' h0 (by omega) h2
  · intro l i d st sp p f h0 hl h3 h4; exact iTimed4 l i d st sp p f e.kind e.at' h0 (by omega) h2 h3 h4
theorem sApply (t : Timer) (e : TEvent) (hv : validT t = true) (h1 : t.last ≤ e.at') (h2 : e.at' ≤ 360000) : SpecAt Try.prog 77 [t.av, e.av] (appR t e.kind e.at') := by
  refine apply_cases hv (fun s => SpecAt Try.prog 77 [s.av, e.av] (appR s e.kind e.at')) ?_ ?_ ?_ ?_ ?_
  · intro l h0 hl; exact sApply0 l e.kind e.at' h0 (by omega) h2
  · intro l i h0 hl; exact sApply1 l i e.kind e.at' h0 (by omega) h2
  · intro l i h0 hi hl; exact sApply2 l i e.kind e.at' (by omega) (by omega) h2 h0 hi
  · intro l i d st sp p f h0 hl; exact sApply3 l i d st sp p f e.kind e.at' h0 (by omega) h2
  · intro l i d st sp p f h0 hl h3 h4; exact sApply4 l i d st sp p f e.kind e.at' h0 (by omega) h2 h3 h4
def evR (t : Timer) (e : TEvent) : AV := if validT t = true then (if t.last ≤ e.at' ∧ e.at' ≤ 360000 then appR t e.kind e.at' else .tup [t.av, .bl false]) else .tup [z8, .bl false]
theorem iApplyEvent (t : Timer) (e : TEvent) : SpecAt Try.prog 50 [t.av, e.av] (evR t e) := by
  obtain ⟨r, f, hr⟩ : ∃ (r : Timer) (f : Bool), appR t e.kind e.at' = .tup [r.av, .bl f] := ⟨_, _, rfl⟩
  refine spec_of_awp (M := MM) (np := 2) (fz := true) mixed Try.func50 rfl rfl (by decide) rfl (Nat.le_refl _) (by decide +kernel) (.inr ⟨rfl, rfl⟩) trivial ?_
  simp -dsimp -implicitDefEqProofs (disch := first | omega | (simp only [lenr]; done) | (simp only [lenr]; omega)) only [↓amPre, amAll, ↓reduceIte, reduceCtorEq, Nat.reduceEqDiff, Nat.reduceBEq, Nat.reduceAdd, Nat.reduceLeDiff, Nat.reduceSub, Nat.reduceMul, Int.reduceToNat, List.size_toArray, tyF, MM, bu0, ipure, kpure, tpure, sspure, kset, tset, ksnoc, tsnoc, Kind.av, Twist.sl, Twist.tr, Invar.av, Timer.av, TEvent.av]
  refine callP_of (isValidImpl_spec t) ?_
  cases hv : validT t with
  | false =>
    have hR : evR t e = .tup [z8, .bl false] := if_neg (by rw [hv]; simp)
    simp -dsimp -implicitDefEqProofs (disch := first | omega | (simp only [lenr]; done) | (simp only [lenr]; omega)) only [↓amPre, amAll, ↓reduceIte, reduceCtorEq, Nat.reduceEqDiff, Nat.reduceBEq, Nat.reduceAdd, Nat.reduceLeDiff, Nat.reduceSub, Nat.reduceMul, Int.reduceToNat, List.size_toArray, tyF, MM, bu0, ipure, kpure, tpure, sspure, kset, tset, ksnoc, tsnoc, Kind.av, Twist.sl, Twist.tr, Invar.av, Timer.av, TEvent.av, hv, hR]
  | true =>
  simp -dsimp -implicitDefEqProofs (disch := first | omega | (simp only [lenr]; done) | (simp only [lenr]; omega)) only [↓amPre, amAll, ↓reduceIte, reduceCtorEq, Nat.reduceEqDiff, Nat.reduceBEq, Nat.reduceAdd, Nat.reduceLeDiff, Nat.reduceSub, Nat.reduceMul, Int.reduceToNat, List.size_toArray, tyF, MM, bu0, ipure, kpure, tpure, sspure, kset, tset, ksnoc, tsnoc, Kind.av, Twist.sl, Twist.tr, Invar.av, Timer.av, TEvent.av, hv]
  refine callP_of (iwithin _ _ _) ?_
  by_cases c : t.last ≤ e.at' ∧ e.at' ≤ 360000
  · have hR : evR t e = appR t e.kind e.at' := by rw [evR, if_pos hv, if_pos c]
    have s := iTimed t e hv c.1 c.2
    rw [hr] at s hR
    have hc := within_iff.2 c
    simp -dsimp -implicitDefEqProofs (disch := first | omega | (simp only [lenr]; done) | (simp only [lenr]; omega)) only [↓amPre, amAll, ↓reduceIte, reduceCtorEq, Nat.reduceEqDiff, Nat.reduceBEq, Nat.reduceAdd, Nat.reduceLeDiff, Nat.reduceSub, Nat.reduceMul, Int.reduceToNat, List.size_toArray, tyF, MM, bu0, ipure, kpure, tpure, sspure, kset, tset, ksnoc, tsnoc, Kind.av, Twist.sl, Twist.tr, Invar.av, Timer.av, TEvent.av, hc]
    refine callP_of (s) ?_
    simp -dsimp -implicitDefEqProofs (disch := first | omega | (simp only [lenr]; done) | (simp only [lenr]; omega)) only [↓amPre, amAll, ↓reduceIte, reduceCtorEq, Nat.reduceEqDiff, Nat.reduceBEq, Nat.reduceAdd, Nat.reduceLeDiff, Nat.reduceSub, Nat.reduceMul, Int.reduceToNat, List.size_toArray, tyF, MM, bu0, ipure, kpure, tpure, sspure, kset, tset, ksnoc, tsnoc, Kind.av, Twist.sl, Twist.tr, Invar.av, Timer.av, TEvent.av, hR]
  · have hR : evR t e = .tup [t.av, .bl false] := by rw [evR, if_pos hv, if_neg c]
    have hc := within_not.2 c
    simp -dsimp -implicitDefEqProofs (disch := first | omega | (simp only [lenr]; done) | (simp only [lenr]; omega)) only [↓amPre, amAll, ↓reduceIte, reduceCtorEq, Nat.reduceEqDiff, Nat.reduceBEq, Nat.reduceAdd, Nat.reduceLeDiff, Nat.reduceSub, Nat.reduceMul, Int.reduceToNat, List.size_toArray, tyF, MM, bu0, ipure, kpure, tpure, sspure, kset, tset, ksnoc, tsnoc, Kind.av, Twist.sl, Twist.tr, Invar.av, Timer.av, TEvent.av, hc, hR]
theorem sApplyEvent (t : Timer) (e : TEvent) : SpecAt Try.prog 48 [t.av, e.av] (evR t e) := by
  obtain ⟨r, f, hr⟩ : ∃ (r : Timer) (f : Bool), appR t e.kind e.at' = .tup [r.av, .bl f] := ⟨_, _, rfl⟩
  refine spec_of_awp (M := MM) (np := 2) (fz := true) mixed Try.func48 rfl rfl (by decide) rfl (Nat.le_refl _) (by decide +kernel) (.inr ⟨rfl, rfl⟩) trivial ?_
  simp -dsimp -implicitDefEqProofs (disch := first | omega | (simp only [lenr]; done) | (simp only [lenr]; omega)) only [↓amPre, amAll, ↓reduceIte, reduceCtorEq, Nat.reduceEqDiff, Nat.reduceBEq, Nat.reduceAdd, Nat.reduceLeDiff, Nat.reduceSub, Nat.reduceMul, Int.reduceToNat, List.size_toArray, tyF, MM, bu0, ipure, kpure, tpure, sspure, kset, tset, ksnoc, tsnoc, Kind.av, Twist.sl, Twist.tr, Invar.av, Timer.av, TEvent.av]
  refine callP_of (isValidSpec_spec t) ?_
  cases hv : validT t with
  | false =>
    have hR : evR t e = .tup [z8, .bl false] := if_neg (by rw [hv]; simp)
    simp -dsimp -implicitDefEqProofs (disch := first | omega | (simp only [lenr]; done) | (simp only [lenr]; omega)) only [↓amPre, amAll, ↓reduceIte, reduceCtorEq, Nat.reduceEqDiff, Nat.reduceBEq, Nat.reduceAdd, Nat.reduceLeDiff, Nat.reduceSub, Nat.reduceMul, Int.reduceToNat, List.size_toArray, tyF, MM, bu0, ipure, kpure, tpure, sspure, kset, tset, ksnoc, tsnoc, Kind.av, Twist.sl, Twist.tr, Invar.av, Timer.av, TEvent.av, hv, hR]
  | true =>
  have hb := valid_bounds hv
  simp -dsimp -implicitDefEqProofs (disch := first | omega | (simp only [lenr]; done) | (simp only [lenr]; omega)) only [↓amPre, amAll, ↓reduceIte, reduceCtorEq, Nat.reduceEqDiff, Nat.reduceBEq, Nat.reduceAdd, Nat.reduceLeDiff, Nat.reduceSub, Nat.reduceMul, Int.reduceToNat, List.size_toArray, tyF, MM, bu0, ipure, kpure, tpure, sspure, kset, tset, ksnoc, tsnoc, Kind.av, Twist.sl, Twist.tr, Invar.av, Timer.av, TEvent.av, hv]
  refine callP_of (l25InRange_spec _) ?_
  by_cases c : t.last ≤ e.at' ∧ e.at' ≤ 360000
  · have hR : evR t e = appR t e.kind e.at' := by rw [evR, if_pos hv, if_pos c]
    have s := sApply t e hv c.1 c.2
    rw [hr] at s hR
    have hc : within e.at' 0 360000 = true := within_iff.2 (by omega)
    simp -dsimp -implicitDefEqProofs (disch := first | omega | (simp only [lenr]; done) | (simp only [lenr]; omega)) only [↓amPre, amAll, ↓reduceIte, reduceCtorEq, Nat.reduceEqDiff, Nat.reduceBEq, Nat.reduceAdd, Nat.reduceLeDiff, Nat.reduceSub, Nat.reduceMul, Int.reduceToNat, List.size_toArray, tyF, MM, bu0, ipure, kpure, tpure, sspure, kset, tset, ksnoc, tsnoc, Kind.av, Twist.sl, Twist.tr, Invar.av, Timer.av, TEvent.av, hc, lt_false c.1]
    refine callP_of (s) ?_
    simp -dsimp -implicitDefEqProofs (disch := first | omega | (simp only [lenr]; done) | (simp only [lenr]; omega)) only [↓amPre, amAll, ↓reduceIte, reduceCtorEq, Nat.reduceEqDiff, Nat.reduceBEq, Nat.reduceAdd, Nat.reduceLeDiff, Nat.reduceSub, Nat.reduceMul, Int.reduceToNat, List.size_toArray, tyF, MM, bu0, ipure, kpure, tpure, sspure, kset, tset, ksnoc, tsnoc, Kind.av, Twist.sl, Twist.tr, Invar.av, Timer.av, TEvent.av, hR]
  · have hR : evR t e = .tup [t.av, .bl false] := by rw [evR, if_pos hv, if_neg c]
    by_cases c2 : 0 ≤ e.at' ∧ e.at' ≤ 360000
    · have hc := within_iff.2 c2
      simp -dsimp -implicitDefEqProofs (disch := first | omega | (simp only [lenr]; done) | (simp only [lenr]; omega)) only [↓amPre, amAll, ↓reduceIte, reduceCtorEq, Nat.reduceEqDiff, Nat.reduceBEq, Nat.reduceAdd, Nat.reduceLeDiff, Nat.reduceSub, Nat.reduceMul, Int.reduceToNat, List.size_toArray, tyF, MM, bu0, ipure, kpure, tpure, sspure, kset, tset, ksnoc, tsnoc, Kind.av, Twist.sl, Twist.tr, Invar.av, Timer.av, TEvent.av, hc, lt_true (show e.at' < t.last by omega), hR]
    · have hc := within_not.2 c2
      simp -dsimp -implicitDefEqProofs (disch := first | omega | (simp only [lenr]; done) | (simp only [lenr]; omega)) only [↓amPre, amAll, ↓reduceIte, reduceCtorEq, Nat.reduceEqDiff, Nat.reduceBEq, Nat.reduceAdd, Nat.reduceLeDiff, Nat.reduceSub, Nat.reduceMul, Int.reduceToNat, List.size_toArray, tyF, MM, bu0, ipure, kpure, tpure, sspure, kset, tset, ksnoc, tsnoc, Kind.av, Twist.sl, Twist.tr, Invar.av, Timer.av, TEvent.av, hc, hR]
theorem eqTimer_spec (a b : Timer) : SpecAt Try.prog 51 [a.av, b.av] (.bl (decide (a = b))) := by
  refine spec_of_awp (M := MM) (np := 2) (fz := true) mixed Try.func51 rfl rfl (by decide) rfl (Nat.le_refl _) (by decide +kernel) (.inr ⟨rfl, rfl⟩) trivial ?_
  simp -dsimp -implicitDefEqProofs (disch := first | omega | (simp only [lenr]; done) | (simp only [lenr]; omega)) only [↓amPre, amAll, ↓reduceIte, reduceCtorEq, Nat.reduceEqDiff, Nat.reduceBEq, Nat.reduceAdd, Nat.reduceLeDiff, Nat.reduceSub, Nat.reduceMul, Int.reduceToNat, List.size_toArray, tyF, MM, bu0, ipure, kpure, tpure, sspure, kset, tset, ksnoc, tsnoc, Kind.av, Twist.sl, Twist.tr, Invar.av, Timer.av]
  have hx := Timer.ext' a b
  all_goals (try (first | refine ifP_mk ?_ ?_ <;> intro _))
  all_goals (try (simp -dsimp -implicitDefEqProofs (disch := first | omega | (simp only [lenr]; done) | (simp only [lenr]; omega)) only [↓amPre, amAll, ↓reduceIte, reduceCtorEq, Nat.reduceEqDiff, Nat.reduceBEq, Nat.reduceAdd, Nat.reduceLeDiff, Nat.reduceSub, Nat.reduceMul, Int.reduceToNat, List.size_toArray, tyF, MM, bu0, ipure, kpure, tpure, sspure, kset, tset, ksnoc, tsnoc, Kind.av, Twist.sl, Twist.tr, Invar.av, *, Timer.av]))
  all_goals (try (first | refine ifP_mk ?_ ?_ <;> intro _))
  all_goals (try (simp -dsimp -implicitDefEqProofs (disch := first | omega | (simp only [lenr]; done) | (simp only [lenr]; omega)) only [↓amPre, amAll, ↓reduceIte, reduceCtorEq, Nat.reduceEqDiff, Nat.reduceBEq, Nat.reduceAdd, Nat.reduceLeDiff, Nat.reduceSub, Nat.reduceMul, Int.reduceToNat, List.size_toArray, tyF, MM, bu0, ipure, kpure, tpure, sspure, kset, tset, ksnoc, tsnoc, Kind.av, Twist.sl, Twist.tr, Invar.av, *, Timer.av]))
  all_goals (try (first | refine ifP_mk ?_ ?_ <;> intro _))
  all_goals (try (simp -dsimp -implicitDefEqProofs (disch := first | omega | (simp only [lenr]; done) | (simp only [lenr]; omega)) only [↓amPre, amAll, ↓reduceIte, reduceCtorEq, Nat.reduceEqDiff, Nat.reduceBEq, Nat.reduceAdd, Nat.reduceLeDiff, Nat.reduceSub, Nat.reduceMul, Int.reduceToNat, List.size_toArray, tyF, MM, bu0, ipure, kpure, tpure, sspure, kset, tset, ksnoc, tsnoc, Kind.av, Twist.sl, Twist.tr, Invar.av, *, Timer.av]))
  all_goals (try (first | refine ifP_mk ?_ ?_ <;> intro _))
  all_goals (try (simp -dsimp -implicitDefEqProofs (disch := first | omega | (simp only [lenr]; done) | (simp only [lenr]; omega)) only [↓amPre, amAll, ↓reduceIte, reduceCtorEq, Nat.reduceEqDiff, Nat.reduceBEq, Nat.reduceAdd, Nat.reduceLeDiff, Nat.reduceSub, Nat.reduceMul, Int.reduceToNat, List.size_toArray, tyF, MM, bu0, ipure, kpure, tpure, sspure, kset, tset, ksnoc, tsnoc, Kind.av, Twist.sl, Twist.tr, Invar.av, *, Timer.av]))
  all_goals (try (first | refine ifP_mk ?_ ?_ <;> intro _))
  all_goals (try (simp -dsimp -implicitDefEqProofs (disch := first | omega | (simp only [lenr]; done) | (simp only [lenr]; omega)) only [↓amPre, amAll, ↓reduceIte, reduceCtorEq, Nat.reduceEqDiff, Nat.reduceBEq, Nat.reduceAdd, Nat.reduceLeDiff, Nat.reduceSub, Nat.reduceMul, Int.reduceToNat, List.size_toArray, tyF, MM, bu0, ipure, kpure, tpure, sspure, kset, tset, ksnoc, tsnoc, Kind.av, Twist.sl, Twist.tr, Invar.av, *, Timer.av]))
  all_goals (try (first | refine ifP_mk ?_ ?_ <;> intro _))
  all_goals (try (simp -dsimp -implicitDefEqProofs (disch := first | omega | (simp only [lenr]; done) | (simp only [lenr]; omega)) only [↓amPre, amAll, ↓reduceIte, reduceCtorEq, Nat.reduceEqDiff, Nat.reduceBEq, Nat.reduceAdd, Nat.reduceLeDiff, Nat.reduceSub, Nat.reduceMul, Int.reduceToNat, List.size_toArray, tyF, MM, bu0, ipure, kpure, tpure, sspure, kset, tset, ksnoc, tsnoc, Kind.av, Twist.sl, Twist.tr, Invar.av, *, Timer.av]))
  all_goals (try (first | refine ifP_mk ?_ ?_ <;> intro _))
  all_goals (try (simp -dsimp -implicitDefEqProofs (disch := first | omega | (simp only [lenr]; done) | (simp only [lenr]; omega)) only [↓amPre, amAll, ↓reduceIte, reduceCtorEq, Nat.reduceEqDiff, Nat.reduceBEq, Nat.reduceAdd, Nat.reduceLeDiff, Nat.reduceSub, Nat.reduceMul, Int.reduceToNat, List.size_toArray, tyF, MM, bu0, ipure, kpure, tpure, sspure, kset, tset, ksnoc, tsnoc, Kind.av, Twist.sl, Twist.tr, Invar.av, *, Timer.av]))
  all_goals (try (first | refine ifP_mk ?_ ?_ <;> intro _))
  all_goals (try (simp -dsimp -implicitDefEqProofs (disch := first | omega | (simp only [lenr]; done) | (simp only [lenr]; omega)) only [↓amPre, amAll, ↓reduceIte, reduceCtorEq, Nat.reduceEqDiff, Nat.reduceBEq, Nat.reduceAdd, Nat.reduceLeDiff, Nat.reduceSub, Nat.reduceMul, Int.reduceToNat, List.size_toArray, tyF, MM, bu0, ipure, kpure, tpure, sspure, kset, tset, ksnoc, tsnoc, Kind.av, Twist.sl, Twist.tr, Invar.av, *, Timer.av]))
  all_goals (try (first | refine ifP_mk ?_ ?_ <;> intro _))
  all_goals (try (simp -dsimp -implicitDefEqProofs (disch := first | omega | (simp only [lenr]; done) | (simp only [lenr]; omega)) only [↓amPre, amAll, ↓reduceIte, reduceCtorEq, Nat.reduceEqDiff, Nat.reduceBEq, Nat.reduceAdd, Nat.reduceLeDiff, Nat.reduceSub, Nat.reduceMul, Int.reduceToNat, List.size_toArray, tyF, MM, bu0, ipure, kpure, tpure, sspure, kset, tset, ksnoc, tsnoc, Kind.av, Twist.sl, Twist.tr, Invar.av, *, Timer.av]))
  all_goals (simp_all)
end Go.AM

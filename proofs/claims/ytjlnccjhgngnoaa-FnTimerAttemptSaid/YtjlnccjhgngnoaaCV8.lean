/-
  CONTRACTS of functions of the program, and what they compute, by content.
-/
import Derived.Test.YtjlnccjhgngnoaaCV7
import Derived.Test.YtjlnccjhgngnoaaCE1
set_option linter.unusedVariables false
set_option linter.unusedSimpArgs false
set_option maxRecDepth 8000
namespace Go.AM
namespace Dice
open Go.Proofs
theorem pen_facts (a s : Int) (k : Nat) (hk : k ≤ 3) : 0 ≤ penOf a s k ∧ penOf a s k ≤ 2000 ∧ (penOf a s k).tmod 200 = 0 := by
  have hk3 : k = 0 ∨ k = 1 ∨ k = 2 ∨ k = 3 := by omega
  rcases started_pen a s with ⟨f, p, _⟩ | ⟨f, p, _, q⟩
  · have e1 : penOf a s k = 0 := by rw [penOf, if_pos f, p]
    rw [e1]; exact ⟨by omega, by omega, rfl⟩
  · have e1 : penOf a s k = inspPen (a - s) + 200 * k := by rw [penOf, if_neg (by simp [f]), p]
    rw [e1]
    refine ⟨by omega, by omega, ?_⟩
    rcases q with q | q <;> rw [q] <;> rcases hk3 with rfl | rfl | rfl | rfl <;> rfl
theorem esnoc (l : List TEvent) (a b : Int) : l.map TEvent.av ++ [.agg [.i64 a, .i64 b]] = (l ++ [(⟨a, b⟩ : TEvent)]).map TEvent.av := by simp [TEvent.av]
theorem lawAttempt (l : List UInt8) (w : l.length ≤ 9223372036854775807) : SpecAt Try.prog 11 [bsl l] (.bl true) := by
  have qb := dbig l
  by_cases c : (4096 : Int) < l.length
  · refine spec_of_awp (M := MM) (np := 1) (fz := true) mixed Try.func11 rfl rfl (by decide) rfl (Nat.le_refl _) (by decide +kernel) (.inr ⟨rfl, rfl⟩) trivial ?_
    simp -dsimp -implicitDefEqProofs (disch := first | omega | (simp only [lenr]; done) | (simp only [lenr]; omega)) only [↓amPre, amAll, ↓reduceIte, reduceCtorEq, Nat.reduceEqDiff, Nat.reduceBEq, Nat.reduceAdd, Nat.reduceLeDiff, Nat.reduceSub, Nat.reduceMul, Int.reduceToNat, List.size_toArray, tyF, MM, bu0, ipure, kpure, tpure, sspure, kset, tset, ksnoc, tsnoc, Kind.av, Twist.sl, Twist.tr, Invar.av]
    refine callP_of (qb) ?_
    simp -dsimp -implicitDefEqProofs (disch := first | omega | (simp only [lenr]; done) | (simp only [lenr]; omega)) only [↓amPre, amAll, ↓reduceIte, reduceCtorEq, Nat.reduceEqDiff, Nat.reduceBEq, Nat.reduceAdd, Nat.reduceLeDiff, Nat.reduceSub, Nat.reduceMul, Int.reduceToNat, List.size_toArray, tyF, MM, bu0, ipure, kpure, tpure, sspure, kset, tset, ksnoc, tsnoc, Kind.av, Twist.sl, Twist.tr, Invar.av, decide_eq_true c]
  rw [decide_eq_false c] at qb
  have q0 := droll l 902 (by omega)
  have k0 : (⟨l, 0, rlK l 902 l.length⟩ : Dc).ok := ⟨by show l.length ≤ 4096; omega, Nat.zero_le _⟩
  generalize (⟨l, 0, rlK l 902 l.length⟩ : Dc) = d0 at q0 k0
  obtain ⟨d1, s, q1, k1, hs⟩ := dbelow d0 1000 k0 (by omega)
  obtain ⟨d2, y, q2, k2, hy⟩ := dbelow d1 1800 k1 (by omega)
  obtain ⟨d3, v, q3, k3, hv⟩ := dbelow d2 20000 k2 (by omega)
  obtain ⟨d4, p, q4, k4, hp⟩ := dbelow d3 4 k3 (by omega)
  obtain ⟨n, hn⟩ : ∃ n : Nat, p = n := ⟨_, (Int.toNat_of_nonneg hp.1).symm⟩
  subst hn
  have hn3 : n ≤ 3 := by omega
  have a1 : IntKind.i64.wrap (55 + y) = 55 + y := wrap64_id (by omega)
  have a2 : IntKind.i64.wrap (s + (55 + y)) = s + (55 + y) := wrap64_id (by omega)
  have a3 : IntKind.i64.wrap (s + (55 + y) - 55) = s + (55 + y) - 55 := wrap64_id (by omega)
  have a4 : IntKind.i64.wrap (s + (55 + y) + v) = s + (55 + y) + v := wrap64_id (by omega)
  obtain ⟨a, hA⟩ : ∃ a, a = s + (55 + y) := ⟨_, rfl⟩
  obtain ⟨z, hZ⟩ : ∃ z, z = a + v := ⟨_, rfl⟩
  rw [← hA] at a2 a3 a4
  rw [← hZ] at a4
  have hs' : 0 ≤ s ∧ s ≤ 999 := by omega
  have ha' : s + 55 ≤ a ∧ a ≤ 30000 := by omega
  have hz' : a ≤ z ∧ z ≤ 60000 := by omega
  have hlen := evL_len s (a - 55) a z
  have q5 := iRunTimer zeroT (evL s (a - 55) a z n) (by rw [hlen]; omega) (by decide)
  rw [hlen, run4 s a z n hs' ha' hz' hn3 n (Nat.le_refl _)] at q5
  simp only at q5
  have q6 := inspSpec_spec (55 + y)
  have hpf := pen_facts a s n hn3
  have q7 := iTimerResult s a z (penOf a s n) (started a s).failed hs' (by omega) hz' ⟨hpf.1, hpf.2.1⟩ hpf.2.2
  have has : a - s = 55 + y := by omega
  have hsp := started_pen a s
  rw [has] at hsp
  have hp0 : penOf a s n = penOf a s n := rfl
  conv at hp0 => rhs; rw [penOf]
  have hc0 : cntOf a s n = cntOf a s n := rfl
  conv at hc0 => rhs; rw [cntOf]
  generalize (started a s).failed = f at hsp hp0 hc0 q5 q7
  generalize (started a s).pen = p0 at hsp hp0
  generalize penOf a s n = pp at hpf hp0 q5 q7
  generalize cntOf a s n = cc at hc0 q5
  generalize inspPen (55 + y) = ip at q6 hsp
  have b1 : IntKind.i64.wrap ((4 : Int) + n) = 4 + n := wrap64_id (by omega)
  have b2 : IntKind.i64.wrap ((200 : Int) * n) = 200 * n := wrap64_id (by omega)
  refine spec_of_awp (M := MM) (np := 1) (fz := true) mixed Try.func11 rfl rfl (by decide) rfl (Nat.le_refl _) (by decide +kernel) (.inr ⟨rfl, rfl⟩) trivial ?_
  simp -dsimp -implicitDefEqProofs (disch := first | omega | (simp only [lenr]; done) | (simp only [lenr]; omega)) only [↓amPre, amAll, ↓reduceIte, reduceCtorEq, Nat.reduceEqDiff, Nat.reduceBEq, Nat.reduceAdd, Nat.reduceLeDiff, Nat.reduceSub, Nat.reduceMul, Int.reduceToNat, List.size_toArray, tyF, MM, bu0, ipure, kpure, tpure, sspure, kset, tset, ksnoc, tsnoc, Kind.av, Twist.sl, Twist.tr, Invar.av]
  refine callP_of (qb) ?_
  simp -dsimp -implicitDefEqProofs (disch := first | omega | (simp only [lenr]; done) | (simp only [lenr]; omega)) only [↓amPre, amAll, ↓reduceIte, reduceCtorEq, Nat.reduceEqDiff, Nat.reduceBEq, Nat.reduceAdd, Nat.reduceLeDiff, Nat.reduceSub, Nat.reduceMul, Int.reduceToNat, List.size_toArray, tyF, MM, bu0, ipure, kpure, tpure, sspure, kset, tset, ksnoc, tsnoc, Kind.av, Twist.sl, Twist.tr, Invar.av]
  refine callP_of (q0) ?_
  simp -dsimp -implicitDefEqProofs (disch := first | omega | (simp only [lenr]; done) | (simp only [lenr]; omega)) only [↓amPre, amAll, ↓reduceIte, reduceCtorEq, Nat.reduceEqDiff, Nat.reduceBEq, Nat.reduceAdd, Nat.reduceLeDiff, Nat.reduceSub, Nat.reduceMul, Int.reduceToNat, List.size_toArray, tyF, MM, bu0, ipure, kpure, tpure, sspure, kset, tset, ksnoc, tsnoc, Kind.av, Twist.sl, Twist.tr, Invar.av]
  refine callX_of (q1) ?_
  simp -dsimp -implicitDefEqProofs (disch := first | omega | (simp only [lenr]; done) | (simp only [lenr]; omega)) only [↓amPre, amAll, ↓reduceIte, reduceCtorEq, Nat.reduceEqDiff, Nat.reduceBEq, Nat.reduceAdd, Nat.reduceLeDiff, Nat.reduceSub, Nat.reduceMul, Int.reduceToNat, List.size_toArray, tyF, MM, bu0, ipure, kpure, tpure, sspure, kset, tset, ksnoc, tsnoc, Kind.av, Twist.sl, Twist.tr, Invar.av]
  refine callX_of (q2) ?_
  simp -dsimp -implicitDefEqProofs (disch := first | omega | (simp only [lenr]; done) | (simp only [lenr]; omega)) only [↓amPre, amAll, ↓reduceIte, reduceCtorEq, Nat.reduceEqDiff, Nat.reduceBEq, Nat.reduceAdd, Nat.reduceLeDiff, Nat.reduceSub, Nat.reduceMul, Int.reduceToNat, List.size_toArray, tyF, MM, bu0, ipure, kpure, tpure, sspure, kset, tset, ksnoc, tsnoc, Kind.av, Twist.sl, Twist.tr, Invar.av, a1]
  refine callX_of (q3) ?_
  simp -dsimp -implicitDefEqProofs (disch := first | omega | (simp only [lenr]; done) | (simp only [lenr]; omega)) only [↓amPre, amAll, ↓reduceIte, reduceCtorEq, Nat.reduceEqDiff, Nat.reduceBEq, Nat.reduceAdd, Nat.reduceLeDiff, Nat.reduceSub, Nat.reduceMul, Int.reduceToNat, List.size_toArray, tyF, MM, bu0, ipure, kpure, tpure, sspure, kset, tset, ksnoc, tsnoc, Kind.av, Twist.sl, Twist.tr, Invar.av]
  refine callX_of (q4) ?_
  simp -dsimp -implicitDefEqProofs (disch := first | omega | (simp only [lenr]; done) | (simp only [lenr]; omega)) only [↓amPre, amAll, ↓reduceIte, reduceCtorEq, Nat.reduceEqDiff, Nat.reduceBEq, Nat.reduceAdd, Nat.reduceLeDiff, Nat.reduceSub, Nat.reduceMul, Int.reduceToNat, List.size_toArray, tyF, MM, bu0, ipure, kpure, tpure, sspure, kset, tset, ksnoc, tsnoc, Kind.av, Twist.sl, Twist.tr, Invar.av, a1, ← hA, a2, a3, ← hZ, a4, Timer.av, TEvent.av]
  refine awp_loopR 42 56 (.tr 2 [.agg [.i64 1, .i64 s], .agg [.i64 2, .i64 (a - 55)], .agg [.i64 3, .i64 a], .agg [.i64 4, .i64 z]]) (by simp -dsimp -implicitDefEqProofs (disch := first | omega | (simp only [lenr]; done) | (simp only [lenr]; omega)) only [↓amPre, amAll, ↓reduceIte, reduceCtorEq, Nat.reduceEqDiff, Nat.reduceBEq, Nat.reduceAdd, Nat.reduceLeDiff, Nat.reduceSub, Nat.reduceMul, Int.reduceToNat, List.size_toArray, tyF, MM, bu0, ipure, kpure, tpure, sspure, kset, tset, ksnoc, tsnoc, Kind.av, Twist.sl, Twist.tr, Invar.av]) (by decide) (by decide) (by decide) (fun k st => k ≤ n ∧ st.fr 9 = .i64 k ∧ st.fr 8 = .ref 56 [] 2 0 (evL s (a - 55) a z k).length ∧ st.fr 7 = .i64 n ∧ st.fr 6 = .i64 v ∧ st.fr 5 = .i64 (55 + y) ∧ st.fr 4 = .i64 s ∧ st.mem 56 = some (evtr (evL s (a - 55) a z k))) (n) ?_ ?_
  · simp -dsimp -implicitDefEqProofs (disch := first | omega | (simp only [lenr]; done) | (simp only [lenr]; omega)) only [↓amPre, amAll, ↓reduceIte, reduceCtorEq, Nat.reduceEqDiff, Nat.reduceBEq, Nat.reduceAdd, Nat.reduceLeDiff, Nat.reduceSub, Nat.reduceMul, Int.reduceToNat, List.size_toArray, tyF, MM, bu0, ipure, kpure, tpure, sspure, kset, tset, ksnoc, tsnoc, Kind.av, Twist.sl, Twist.tr, Invar.av, ren_eq]
    exact ⟨Nat.zero_le _, rfl, rfl, rfl⟩
  rintro k st _ ⟨hk, f9, f8, f7, f6, f5, f4, m56⟩
  have hes := evL_succ s (a - 55) a z k
  by_cases hlt : k < n
  · have hl4 : (evL s (a - 55) a z k).length ≤ 10 := by rw [hlen]; omega
    have hll : (evL s (a - 55) a z (k + 1)).length = (evL s (a - 55) a z k).length + 1 := by rw [hlen, hlen]; omega
    simp -dsimp -implicitDefEqProofs (disch := first | omega | (simp only [lenr]; done) | (simp only [lenr]; omega)) only [↓amPre, amAll, ↓reduceIte, reduceCtorEq, Nat.reduceEqDiff, Nat.reduceBEq, Nat.reduceAdd, Nat.reduceLeDiff, Nat.reduceSub, Nat.reduceMul, Int.reduceToNat, List.size_toArray, tyF, MM, bu0, ipure, kpure, tpure, sspure, kset, tset, ksnoc, tsnoc, Kind.av, Twist.sl, Twist.tr, Invar.av, f9, f8, f7, f6, f5, f4, m56, a1, ← hA, a2, a3, ← hZ, a4, esnoc, ← hes, ← hll]
    repeat' (first | omega | rfl | exact i64c (by omega) | exact vic (by omega) | apply And.intro)
  · have hke : k = n := by omega
    subst hke
    simp -dsimp -implicitDefEqProofs (disch := first | omega | (simp only [lenr]; done) | (simp only [lenr]; omega)) only [↓amPre, amAll, ↓reduceIte, reduceCtorEq, Nat.reduceEqDiff, Nat.reduceBEq, Nat.reduceAdd, Nat.reduceLeDiff, Nat.reduceSub, Nat.reduceMul, Int.reduceToNat, List.size_toArray, tyF, MM, bu0, ipure, kpure, tpure, sspure, kset, tset, ksnoc, tsnoc, Kind.av, Twist.sl, Twist.tr, Invar.av, f9, f8, f7, f6, f5, f4, m56, efz, Timer.av]
    refine callP_of (q5) ?_
    simp -dsimp -implicitDefEqProofs (disch := first | omega | (simp only [lenr]; done) | (simp only [lenr]; omega)) only [↓amPre, amAll, ↓reduceIte, reduceCtorEq, Nat.reduceEqDiff, Nat.reduceBEq, Nat.reduceAdd, Nat.reduceLeDiff, Nat.reduceSub, Nat.reduceMul, Int.reduceToNat, List.size_toArray, tyF, MM, bu0, ipure, kpure, tpure, sspure, kset, tset, ksnoc, tsnoc, Kind.av, Twist.sl, Twist.tr, Invar.av, f9, f8, f7, f6, f5, f4, m56, Timer.av]
    refine callP_of (q6) ?_
    rcases hsp with ⟨rfl, e1, e2⟩ | ⟨rfl, e1, e2, e3⟩
    · rw [if_pos rfl] at hc0
      subst e2; subst hc0
      simp -dsimp -implicitDefEqProofs (disch := first | omega | (simp only [lenr]; done) | (simp only [lenr]; omega)) only [↓amPre, amAll, ↓reduceIte, reduceCtorEq, Nat.reduceEqDiff, Nat.reduceBEq, Nat.reduceAdd, Nat.reduceLeDiff, Nat.reduceSub, Nat.reduceMul, Int.reduceToNat, List.size_toArray, tyF, MM, bu0, ipure, kpure, tpure, sspure, kset, tset, ksnoc, tsnoc, Kind.av, Twist.sl, Twist.tr, Invar.av, f9, f8, f7, f6, f5, f4, m56, Timer.av]
      refine callP_of (q7) ?_
      simp -dsimp -implicitDefEqProofs (disch := first | omega | (simp only [lenr]; done) | (simp only [lenr]; omega)) only [↓amPre, amAll, ↓reduceIte, reduceCtorEq, Nat.reduceEqDiff, Nat.reduceBEq, Nat.reduceAdd, Nat.reduceLeDiff, Nat.reduceSub, Nat.reduceMul, Int.reduceToNat, List.size_toArray, tyF, MM, bu0, ipure, kpure, tpure, sspure, kset, tset, ksnoc, tsnoc, Kind.av, Twist.sl, Twist.tr, Invar.av, f9, f8, f7, f6, f5, f4, m56]
      done
    · rw [if_neg (by simp)] at hp0 hc0
      subst hc0
      have g1 : z - a + pp = v + ip + 200 * k := by omega
      have g2 : IntKind.i64.wrap (v + ip) = v + ip := wrap64_id (by omega)
      have g3 : IntKind.i64.wrap (v + ip + 200 * k) = v + ip + 200 * k := wrap64_id (by omega)
      simp -dsimp -implicitDefEqProofs (disch := first | omega | (simp only [lenr]; done) | (simp only [lenr]; omega)) only [↓amPre, amAll, ↓reduceIte, reduceCtorEq, Nat.reduceEqDiff, Nat.reduceBEq, Nat.reduceAdd, Nat.reduceLeDiff, Nat.reduceSub, Nat.reduceMul, Int.reduceToNat, List.size_toArray, tyF, MM, bu0, ipure, kpure, tpure, sspure, kset, tset, ksnoc, tsnoc, Kind.av, Twist.sl, Twist.tr, Invar.av, f9, f8, f7, f6, f5, f4, m56, Timer.av, e2, b1, b2]
      refine callP_of (q7) ?_
      simp -dsimp -implicitDefEqProofs (disch := first | omega | (simp only [lenr]; done) | (simp only [lenr]; omega)) only [↓amPre, amAll, ↓reduceIte, reduceCtorEq, Nat.reduceEqDiff, Nat.reduceBEq, Nat.reduceAdd, Nat.reduceLeDiff, Nat.reduceSub, Nat.reduceMul, Int.reduceToNat, List.size_toArray, tyF, MM, bu0, ipure, kpure, tpure, sspure, kset, tset, ksnoc, tsnoc, Kind.av, Twist.sl, Twist.tr, Invar.av, f9, f8, f7, f6, f5, f4, m56, b2]
      refine callP_of (q6) ?_
      simp -dsimp -implicitDefEqProofs (disch := first | omega | (simp only [lenr]; done) | (simp only [lenr]; omega)) only [↓amPre, amAll, ↓reduceIte, reduceCtorEq, Nat.reduceEqDiff, Nat.reduceBEq, Nat.reduceAdd, Nat.reduceLeDiff, Nat.reduceSub, Nat.reduceMul, Int.reduceToNat, List.size_toArray, tyF, MM, bu0, ipure, kpure, tpure, sspure, kset, tset, ksnoc, tsnoc, Kind.av, Twist.sl, Twist.tr, Invar.av, f9, f8, f7, f6, f5, f4, m56, b1, b2, g1, g2, g3]
      done
end Dice
end Go.AM

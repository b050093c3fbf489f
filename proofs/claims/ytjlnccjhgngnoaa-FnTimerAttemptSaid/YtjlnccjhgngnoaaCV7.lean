/-
  CONTRACTS of functions of the program, and what they compute, by content.
-/
import Derived.Test.YtjlnccjhgngnoaaCV6
set_option linter.unusedVariables false
set_option linter.unusedSimpArgs false
set_option maxRecDepth 8000
namespace Go.AM
namespace Dice
open Go.Proofs
theorem efz (l : List TEvent) : (l.map TEvent.av).map AV.fz = l.map TEvent.av := by
  rw [List.map_map]; rfl
theorem ev1 (s : Int) (h : 0 ≤ s ∧ s ≤ 999) : evT zeroT ⟨1, s⟩ = (⟨1, s, s, 0, 0, 0, 0, false⟩, true) := by
  rw [evT, if_pos (by decide), if_pos (by simp only [zeroT]; omega), applyT, if_pos ⟨rfl, rfl⟩]
theorem val1 (s : Int) (h : 0 ≤ s ∧ s ≤ 999) : validT ⟨1, s, s, 0, 0, 0, 0, false⟩ = true := by
  simp [validT, within]; omega
theorem ev2 (s a : Int) (h : 0 ≤ s ∧ s ≤ 999) (ha : s ≤ a ∧ a ≤ 30000) : evT ⟨1, s, s, 0, 0, 0, 0, false⟩ ⟨2, a⟩ = (⟨2, a, s, a, 0, 0, 0, false⟩, true) := by
  rw [evT, if_pos (val1 s h), if_pos (by simp only; omega), applyT, if_neg (by simp), if_pos ⟨rfl, rfl⟩]
theorem val2 (s a : Int) (h : 0 ≤ s ∧ s ≤ 999) (ha : s ≤ a ∧ a ≤ 30000) : validT ⟨2, a, s, a, 0, 0, 0, false⟩ = true := by
  simp [validT, within]; omega
theorem ev3 (s a : Int) (h : 0 ≤ s ∧ s ≤ 999) (ha : s ≤ a ∧ a ≤ 30000) : evT ⟨2, a, s, a, 0, 0, 0, false⟩ ⟨3, a + 55⟩ = (started (a + 55) s, true) := by
  rw [evT, if_pos (val2 s a h ha), if_pos (by simp only; omega), applyT, if_neg (by simp), if_neg (by simp), if_pos ⟨rfl, rfl⟩, if_neg (by simp only; omega)]
theorem started_last (a s : Int) : (started a s).last = a ∧ (started a s).inspect = s ∧ (started a s).phase = 3 ∧ (started a s).down = 0 ∧ (started a s).start = a := by
  unfold started; split <;> simp
theorem val3 (s a : Int) (h : 0 ≤ s ∧ s ≤ 999) (ha : s ≤ a ∧ a ≤ 30000) : validT (started a s) = true := by
  obtain ⟨h1, h2, h3, h4, h5⟩ := started_last a s
  simp [validT, within, h1, h2, h3]; omega
theorem ev4 (s a z : Int) (h : 0 ≤ s ∧ s ≤ 999) (ha : s ≤ a ∧ a ≤ 30000) (hz : a ≤ z ∧ z ≤ 60000) : evT (started a s) ⟨4, z⟩ = (⟨4, z, s, 0, a, z, (started a s).pen, (started a s).failed⟩, true) := by
  obtain ⟨h1, h2, h3, h4, h5⟩ := started_last a s
  rw [evT, if_pos (val3 s a h ha), if_pos (by rw [h1]; simp only; omega), applyT, if_neg (by simp), if_neg (by simp), if_neg (by simp), if_pos ⟨rfl, h3⟩, h2, h4, h5]
theorem val4 (s a z p : Int) (f : Bool) (h : 0 ≤ s ∧ s ≤ 999) (ha : s ≤ a ∧ a ≤ 30000) (hz : a ≤ z ∧ z ≤ 60000) (hp : 0 ≤ p ∧ p ≤ 2000) (hm : p.tmod 200 = 0) : validT ⟨4, z, s, 0, a, z, p, f⟩ = true := by
  simp [validT, within, stoppedOk, hm]; omega
theorem ev5 (s a z p : Int) (h : 0 ≤ s ∧ s ≤ 999) (ha : s ≤ a ∧ a ≤ 30000) (hz : a ≤ z ∧ z ≤ 60000) (hp : 0 ≤ p ∧ p ≤ 1800) (hm : p.tmod 200 = 0) : evT ⟨4, z, s, 0, a, z, p, false⟩ ⟨5, z⟩ = (⟨4, z, s, 0, a, z, p + 200, false⟩, true) := by
  rw [evT, if_pos (val4 s a z p false h ha hz (by omega) hm), if_pos (by simp only; omega), applyT, if_neg (by simp), if_neg (by simp), if_neg (by simp), if_neg (by simp), if_pos ⟨rfl, rfl, rfl, by simp only; omega⟩]
theorem ev5f (s a z p : Int) (h : 0 ≤ s ∧ s ≤ 999) (ha : s ≤ a ∧ a ≤ 30000) (hz : a ≤ z ∧ z ≤ 60000) (hp : 0 ≤ p ∧ p ≤ 1800) (hm : p.tmod 200 = 0) : evT ⟨4, z, s, 0, a, z, p, true⟩ ⟨5, z⟩ = (⟨4, z, s, 0, a, z, p, true⟩, false) := by
  rw [evT, if_pos (val4 s a z p true h ha hz (by omega) hm), if_pos (by simp only; omega), applyT, if_neg (by simp), if_neg (by simp), if_neg (by simp), if_neg (by simp), if_neg (by simp), if_neg (by simp), if_neg (by simp), if_neg (by simp)]
def evL (s b a z : Int) (k : Nat) : List TEvent := [⟨1, s⟩, ⟨2, b⟩, ⟨3, a⟩, ⟨4, z⟩] ++ List.replicate k ⟨5, z⟩
theorem evL_len (s b a z : Int) (k : Nat) : (evL s b a z k).length = 4 + k := by simp [evL]; omega
theorem evL_succ (s b a z : Int) (k : Nat) : evL s b a z (k + 1) = evL s b a z k ++ [⟨5, z⟩] := by simp [evL, List.replicate_succ']
theorem evL_get (s b a z : Int) (k j : Nat) (h : j < k) : (evL s b a z k).getD (4 + j) default = ⟨5, z⟩ := by
  simp only [evL, List.getD]
  rw [List.getElem?_append_right (by simp)]
  simp [h]
def penOf (a s : Int) (k : Nat) : Int := if (started a s).failed = true then (started a s).pen else (started a s).pen + 200 * k
def cntOf (a s : Int) (k : Nat) : Int := if (started a s).failed = true then 4 else 4 + k
theorem started_pen (a s : Int) : ((started a s).failed = true ∧ (started a s).pen = 0 ∧ inspPen (a - s) = -1) ∨ ((started a s).failed = false ∧ (started a s).pen = inspPen (a - s) ∧ inspPen (a - s) ≠ -1 ∧ (inspPen (a - s) = 0 ∨ inspPen (a - s) = 200)) := by
  unfold started
  split
  · rename_i h; exact .inl ⟨rfl, rfl, h⟩
  · rename_i h
    refine .inr ⟨rfl, rfl, h, ?_⟩
    unfold inspPen at h ⊢
    split
    · simp
    · split
      · simp
      · rename_i h1 h2; simp [h1, h2] at h
theorem run4 (s a z : Int) (n : Nat) (h : 0 ≤ s ∧ s ≤ 999) (ha : s + 55 ≤ a ∧ a ≤ 30000) (hz : a ≤ z ∧ z ≤ 60000) (hn : n ≤ 3) : ∀ k, k ≤ n → runT zeroT (evL s (a - 55) a z n) (4 + k) = (⟨4, z, s, 0, a, z, penOf a s k, (started a s).failed⟩, cntOf a s k)
  | 0, _ => by
    have g1 : (evL s (a - 55) a z n).getD 0 default = ⟨1, s⟩ := rfl
    have g2 : (evL s (a - 55) a z n).getD 1 default = ⟨2, a - 55⟩ := rfl
    have g3 : (evL s (a - 55) a z n).getD 2 default = ⟨3, a⟩ := rfl
    have g4 : (evL s (a - 55) a z n).getD 3 default = ⟨4, z⟩ := rfl
    have e3 := ev3 s (a - 55) h (by omega)
    rw [show a - 55 + 55 = a by omega] at e3
    have r1 : runT zeroT (evL s (a - 55) a z n) 1 = (⟨1, s, s, 0, 0, 0, 0, false⟩, 1) := by rw [runT, runT, g1, ev1 s h]; rfl
    have r2 : runT zeroT (evL s (a - 55) a z n) 2 = (⟨2, a - 55, s, a - 55, 0, 0, 0, false⟩, 2) := by rw [runT, r1, g2, ev2 s (a - 55) h (by omega)]; rfl
    have r3 : runT zeroT (evL s (a - 55) a z n) 3 = (started a s, 3) := by rw [runT, r2, g3, e3]; rfl
    show runT zeroT (evL s (a - 55) a z n) 4 = _
    rw [runT, r3, g4, ev4 s a z h (by omega) hz]
    unfold penOf cntOf
    rcases started_pen a s with ⟨f, p, _⟩ | ⟨f, p, _⟩ <;> simp [f]
  | k + 1, hk => by
    show runT zeroT (evL s (a - 55) a z n) ((4 + k) + 1) = _
    rw [runT, run4 s a z n h ha hz hn k (by omega), evL_get _ _ _ _ _ _ (by omega)]
    rcases started_pen a s with ⟨f, p, _⟩ | ⟨f, p, _, q⟩
    · have e1 : penOf a s k = 0 := by rw [penOf, if_pos f, p]
      have e2 : penOf a s (k + 1) = 0 := by rw [penOf, if_pos f, p]
      have e3 : cntOf a s k = 4 := by rw [cntOf, if_pos f]
      have e4 : cntOf a s (k + 1) = 4 := by rw [cntOf, if_pos f]
      rw [e1, e2, e3, e4, f, ev5f s a z 0 h (by omega) hz (by omega) rfl]
      rfl
    · have e1 : penOf a s k = inspPen (a - s) + 200 * k := by rw [penOf, if_neg (by simp [f]), p]
      have e2 : penOf a s (k + 1) = inspPen (a - s) + 200 * k + 200 := by rw [penOf, if_neg (by simp [f]), p]; omega
      have e3 : cntOf a s k = 4 + k := by rw [cntOf, if_neg (by simp [f])]
      have e4 : cntOf a s (k + 1) = 4 + k + 1 := by rw [cntOf, if_neg (by simp [f])]; omega
      have hm : (inspPen (a - s) + 200 * k).tmod 200 = 0 := by
        have hk3 : k = 0 ∨ k = 1 ∨ k = 2 := by omega
        rcases q with q | q <;> rw [q] <;> rcases hk3 with rfl | rfl | rfl <;> rfl
      rw [e1, e2, e3, e4, f, ev5 s a z _ h (by omega) hz (by omega) hm]
      rfl
theorem iTimerResult (s a z p : Int) (f : Bool) (h : 0 ≤ s ∧ s ≤ 999) (ha : s ≤ a ∧ a ≤ 30000) (hz : a ≤ z ∧ z ≤ 60000) (hp : 0 ≤ p ∧ p ≤ 2000) (hm : p.tmod 200 = 0) : SpecAt Try.prog 37 [(⟨4, z, s, 0, a, z, p, f⟩ : Timer).av] (.i64 (if f = true then -1 else z - a + p)) := by
  have hvs := isValidImpl_spec ⟨4, z, s, 0, a, z, p, f⟩
  rw [val4 s a z p f h ha hz hp hm] at hvs
  have e1 : IntKind.i64.wrap (z - a) = z - a := wrap64_id (by omega)
  have e2 : IntKind.i64.wrap (z - a + p) = z - a + p := wrap64_id (by omega)
  cases f with
  | true =>
    refine spec_of_awp (M := MM) (np := 1) (fz := true) mixed Try.func37 rfl rfl (by decide) rfl (Nat.le_refl _) (by decide +kernel) (.inr ⟨rfl, rfl⟩) trivial ?_
    simp -dsimp -implicitDefEqProofs (disch := first | omega | (simp only [lenr]; done) | (simp only [lenr]; omega)) only [↓amPre, amAll, ↓reduceIte, reduceCtorEq, Nat.reduceEqDiff, Nat.reduceBEq, Nat.reduceAdd, Nat.reduceLeDiff, Nat.reduceSub, Nat.reduceMul, Int.reduceToNat, List.size_toArray, tyF, MM, bu0, ipure, kpure, tpure, sspure, kset, tset, ksnoc, tsnoc, Kind.av, Twist.sl, Twist.tr, Invar.av, Timer.av]
    refine callP_of (hvs) ?_
    simp -dsimp -implicitDefEqProofs (disch := first | omega | (simp only [lenr]; done) | (simp only [lenr]; omega)) only [↓amPre, amAll, ↓reduceIte, reduceCtorEq, Nat.reduceEqDiff, Nat.reduceBEq, Nat.reduceAdd, Nat.reduceLeDiff, Nat.reduceSub, Nat.reduceMul, Int.reduceToNat, List.size_toArray, tyF, MM, bu0, ipure, kpure, tpure, sspure, kset, tset, ksnoc, tsnoc, Kind.av, Twist.sl, Twist.tr, Invar.av, Timer.av]
  | false =>
    refine spec_of_awp (M := MM) (np := 1) (fz := true) mixed Try.func37 rfl rfl (by decide) rfl (Nat.le_refl _) (by decide +kernel) (.inr ⟨rfl, rfl⟩) trivial ?_
    simp -dsimp -implicitDefEqProofs (disch := first | omega | (simp only [lenr]; done) | (simp only [lenr]; omega)) only [↓amPre, amAll, ↓reduceIte, reduceCtorEq, Nat.reduceEqDiff, Nat.reduceBEq, Nat.reduceAdd, Nat.reduceLeDiff, Nat.reduceSub, Nat.reduceMul, Int.reduceToNat, List.size_toArray, tyF, MM, bu0, ipure, kpure, tpure, sspure, kset, tset, ksnoc, tsnoc, Kind.av, Twist.sl, Twist.tr, Invar.av, Timer.av]
    refine callP_of (hvs) ?_
    simp -dsimp -implicitDefEqProofs (disch := first | omega | (simp only [lenr]; done) | (simp only [lenr]; omega)) only [↓amPre, amAll, ↓reduceIte, reduceCtorEq, Nat.reduceEqDiff, Nat.reduceBEq, Nat.reduceAdd, Nat.reduceLeDiff, Nat.reduceSub, Nat.reduceMul, Int.reduceToNat, List.size_toArray, tyF, MM, bu0, ipure, kpure, tpure, sspure, kset, tset, ksnoc, tsnoc, Kind.av, Twist.sl, Twist.tr, Invar.av, Timer.av, e1, e2]
end Dice
end Go.AM

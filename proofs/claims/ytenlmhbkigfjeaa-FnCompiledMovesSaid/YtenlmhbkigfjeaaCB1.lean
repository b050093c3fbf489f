/-
  CONTRACTS of functions of the program, and what they compute, by content.
-/
import Derived.Test.YtenlmhbkigfjeaaCB0
import Derived.Test.YtenlmhbkigfjeaaM2SD
import Derived.Sort.Grow
import Derived.Deep.Draws
import Derived.Lib.LaidTab
import Derived.Sort.Row
import Derived.Test.YtenlmhbkigfjeaaM2Facts
import Derived.Shelf.SlicesE.DeleteFunc
import Derived.Shelf.GgClosure.Gives
import Derived.Lib.SliceRun
import Derived.Shelf.SortM.Plain
import Derived.Shelf.SortM.SortNone
set_option linter.unusedVariables false
set_option linter.unusedSimpArgs false
set_option maxRecDepth 8000
namespace Go.AM
open Go.Proofs
theorem moveName (l : List UInt8) (i : Nat) (hi : i < l.length) (hl : l.length ≤ 1099511627776) : SpecAt Try.prog 97 [.st l, .i64 i] (.bl (decide (nameAt l i))) := by
  refine spec_of_awp (M := MM) (np := 2) (fz := true) mixed Try.func97 rfl rfl (by decide) rfl (Nat.le_refl _) (by decide +kernel) (.inr ⟨rfl, rfl⟩) trivial ?_
  have fin : ∀ b : Bool, (b = true ↔ nameAt l i) → Value.bool b = Value.bool (decide (nameAt l i)) := fun b h => bl_eq (by rw [h, decide_eq_true_iff])
  have hu := u8lt (l.getD i 0)
  by_cases w1 : ((l.getD i 0).toNat : Int) < 65
  · simp -dsimp -implicitDefEqProofs (disch := first | omega | (simp only [lenr]; done) | (simp only [lenr]; omega)) only [↓amPre, amAll, ↓reduceIte, reduceCtorEq, Nat.reduceEqDiff, Nat.reduceBEq, Nat.reduceAdd, Nat.reduceLeDiff, Nat.reduceSub, Nat.reduceMul, Int.reduceToNat, List.size_toArray, tyF, MM, bu0, ipure, kpure, tpure, sspure, kset, tset, ksnoc, tsnoc, Kind.av, Twist.sl, Twist.tr, Invar.av, stsize, stget, sttl, stapp, stext, tsspure, Model.sl, Model.tr, vset, vsnoc, vpure, Puzz.sl, Puzz.tr, lt_true w1]
    refine fin _ ?_
    simp only [reduceCtorEq, false_iff]
    intro q; have := q.1; omega
  by_cases w2 : (90 : Int) < ((l.getD i 0).toNat : Int)
  · simp -dsimp -implicitDefEqProofs (disch := first | omega | (simp only [lenr]; done) | (simp only [lenr]; omega)) only [↓amPre, amAll, ↓reduceIte, reduceCtorEq, Nat.reduceEqDiff, Nat.reduceBEq, Nat.reduceAdd, Nat.reduceLeDiff, Nat.reduceSub, Nat.reduceMul, Int.reduceToNat, List.size_toArray, tyF, MM, bu0, ipure, kpure, tpure, sspure, kset, tset, ksnoc, tsnoc, Kind.av, Twist.sl, Twist.tr, Invar.av, stsize, stget, sttl, stapp, stext, tsspure, Model.sl, Model.tr, vset, vsnoc, vpure, Puzz.sl, Puzz.tr, lt_false (Int.not_lt.1 w1), lt_true w2]
    refine fin _ ?_
    simp only [reduceCtorEq, false_iff]
    intro q; have := q.1; omega
  simp -dsimp -implicitDefEqProofs (disch := first | omega | (simp only [lenr]; done) | (simp only [lenr]; omega)) only [↓amPre, amAll, ↓reduceIte, reduceCtorEq, Nat.reduceEqDiff, Nat.reduceBEq, Nat.reduceAdd, Nat.reduceLeDiff, Nat.reduceSub, Nat.reduceMul, Int.reduceToNat, List.size_toArray, tyF, MM, bu0, ipure, kpure, tpure, sspure, kset, tset, ksnoc, tsnoc, Kind.av, Twist.sl, Twist.tr, Invar.av, stsize, stget, sttl, stapp, stext, tsspure, Model.sl, Model.tr, vset, vsnoc, vpure, Puzz.sl, Puzz.tr, lt_false (Int.not_lt.1 w1), lt_false (Int.not_lt.1 w2)]
  refine awp_loop (fun k st => k ≤ i ∧ st.fr 5 = .i64 k ∧ st.fr 1 = .i64 i ∧ st.fr 0 = .st l ∧ ∀ y ∈ l.take k, y ≠ l.getD i 0) (i) ?_ ?_
  · simp -dsimp -implicitDefEqProofs (disch := first | omega | (simp only [lenr]; done) | (simp only [lenr]; omega)) only [↓amPre, amAll, ↓reduceIte, reduceCtorEq, Nat.reduceEqDiff, Nat.reduceBEq, Nat.reduceAdd, Nat.reduceLeDiff, Nat.reduceSub, Nat.reduceMul, Int.reduceToNat, List.size_toArray, tyF, MM, bu0, ipure, kpure, tpure, sspure, kset, tset, ksnoc, tsnoc, Kind.av, Twist.sl, Twist.tr, Invar.av, stsize, stget, sttl, stapp, stext, tsspure, Model.sl, Model.tr, vset, vsnoc, vpure, Puzz.sl, Puzz.tr]
    simp
  rintro k st _ ⟨hk, f5, f1, f0, ek⟩
  by_cases hk' : k < i
  · have hmk := mem_take_succ (l := l) (d := 0) (p := fun y => y ≠ l.getD i 0) (show k < l.length by omega)
    cases w2 : decide (l.getD k 0 = l.getD i 0) with
    | true =>
      simp -dsimp -implicitDefEqProofs (disch := first | omega | (simp only [lenr]; done) | (simp only [lenr]; omega)) only [↓amPre, amAll, ↓reduceIte, reduceCtorEq, Nat.reduceEqDiff, Nat.reduceBEq, Nat.reduceAdd, Nat.reduceLeDiff, Nat.reduceSub, Nat.reduceMul, Int.reduceToNat, List.size_toArray, tyF, MM, bu0, ipure, kpure, tpure, sspure, kset, tset, ksnoc, tsnoc, Kind.av, Twist.sl, Twist.tr, Invar.av, stsize, stget, sttl, stapp, stext, tsspure, Model.sl, Model.tr, vset, vsnoc, vpure, Puzz.sl, Puzz.tr, f5, f1, f0, u8eq, w2]
      refine fin _ ?_
      simp only [reduceCtorEq, false_iff]
      intro q
      simp only [decide_eq_true_eq] at w2
      refine q.2 _ ?_ w2
      rw [List.mem_take_iff_getElem]
      exact ⟨k, by omega, (getD_eq _ _ _ (show k < l.length by omega)).symm⟩
    | false =>
      simp -dsimp -implicitDefEqProofs (disch := first | omega | (simp only [lenr]; done) | (simp only [lenr]; omega)) only [↓amPre, amAll, ↓reduceIte, reduceCtorEq, Nat.reduceEqDiff, Nat.reduceBEq, Nat.reduceAdd, Nat.reduceLeDiff, Nat.reduceSub, Nat.reduceMul, Int.reduceToNat, List.size_toArray, tyF, MM, bu0, ipure, kpure, tpure, sspure, kset, tset, ksnoc, tsnoc, Kind.av, Twist.sl, Twist.tr, Invar.av, stsize, stget, sttl, stapp, stext, tsspure, Model.sl, Model.tr, vset, vsnoc, vpure, Puzz.sl, Puzz.tr, f5, f1, f0, u8eq, w2]
      simp only [decide_eq_false_iff_not] at w2
      repeat' (first | omega | rfl | exact i64c (by omega) | exact vic (by omega) | exact hmk.2 ⟨ek, w2⟩ | apply And.intro)
  · have hke : k = i := by omega
    subst hke
    simp -dsimp -implicitDefEqProofs (disch := first | omega | (simp only [lenr]; done) | (simp only [lenr]; omega)) only [↓amPre, amAll, ↓reduceIte, reduceCtorEq, Nat.reduceEqDiff, Nat.reduceBEq, Nat.reduceAdd, Nat.reduceLeDiff, Nat.reduceSub, Nat.reduceMul, Int.reduceToNat, List.size_toArray, tyF, MM, bu0, ipure, kpure, tpure, sspure, kset, tset, ksnoc, tsnoc, Kind.av, Twist.sl, Twist.tr, Invar.av, stsize, stget, sttl, stapp, stext, tsspure, Model.sl, Model.tr, vset, vsnoc, vpure, Puzz.sl, Puzz.tr, f5, f1, f0]
    refine fin _ ?_
    simp only [true_iff]
    exact ⟨by omega, ek⟩
theorem sPuzzle (p : Puzz) (h : smallP p) : SpecAt Try.prog 27 [p.sl] (.bl (decide (puzzOk p))) := by
  have h2 := h.2.1
  have h3 := h.2.2.1
  refine spec_of_awp (M := MM) (np := 1) (fz := true) mixed Try.func27 rfl rfl (by decide) rfl (Nat.le_refl _) (by decide +kernel) (.inr ⟨rfl, rfl⟩) trivial ?_
  have fin : ∀ b : Bool, (b = true ↔ puzzOk p) → Value.bool b = Value.bool (decide (puzzOk p)) := fun b h => bl_eq (by rw [h, decide_eq_true_iff])
  by_cases c0 : (p.mv.length : Int) = 0
  · simp -dsimp -implicitDefEqProofs (disch := first | omega | (simp only [lenr]; done) | (simp only [lenr]; omega)) only [↓amPre, amAll, ↓reduceIte, reduceCtorEq, Nat.reduceEqDiff, Nat.reduceBEq, Nat.reduceAdd, Nat.reduceLeDiff, Nat.reduceSub, Nat.reduceMul, Int.reduceToNat, List.size_toArray, tyF, MM, bu0, ipure, kpure, tpure, sspure, kset, tset, ksnoc, tsnoc, Kind.av, Twist.sl, Twist.tr, Invar.av, stsize, stget, sttl, stapp, stext, tsspure, Model.sl, Model.tr, vset, vsnoc, vpure, Puzz.sl, Puzz.tr, eq_true c0]
    refine fin _ ?_
    simp only [reduceCtorEq, false_iff]
    intro q; have := puzz_nm q; omega
  by_cases c1 : (p.nm.length : Int) = p.mv.length
  case neg =>
    simp -dsimp -implicitDefEqProofs (disch := first | omega | (simp only [lenr]; done) | (simp only [lenr]; omega)) only [↓amPre, amAll, ↓reduceIte, reduceCtorEq, Nat.reduceEqDiff, Nat.reduceBEq, Nat.reduceAdd, Nat.reduceLeDiff, Nat.reduceSub, Nat.reduceMul, Int.reduceToNat, List.size_toArray, tyF, MM, bu0, ipure, kpure, tpure, sspure, kset, tset, ksnoc, tsnoc, Kind.av, Twist.sl, Twist.tr, Invar.av, stsize, stget, sttl, stapp, stext, tsspure, Model.sl, Model.tr, vset, vsnoc, vpure, Puzz.sl, Puzz.tr, eq_false c0, ne_true c1]
    refine fin _ ?_
    simp only [reduceCtorEq, false_iff]
    intro q; have := q.2.2; omega
  simp -dsimp -implicitDefEqProofs (disch := first | omega | (simp only [lenr]; done) | (simp only [lenr]; omega)) only [↓amPre, amAll, ↓reduceIte, reduceCtorEq, Nat.reduceEqDiff, Nat.reduceBEq, Nat.reduceAdd, Nat.reduceLeDiff, Nat.reduceSub, Nat.reduceMul, Int.reduceToNat, List.size_toArray, tyF, MM, bu0, ipure, kpure, tpure, sspure, kset, tset, ksnoc, tsnoc, Kind.av, Twist.sl, Twist.tr, Invar.av, stsize, stget, sttl, stapp, stext, tsspure, Model.sl, Model.tr, vset, vsnoc, vpure, Puzz.sl, Puzz.tr, eq_false c0, ne_false c1]
  refine callP_of (sGen p.n p.mv h.1 h.2.2) ?_
  by_cases c2 : genOk p.n p.mv
  case neg =>
    simp -dsimp -implicitDefEqProofs (disch := first | omega | (simp only [lenr]; done) | (simp only [lenr]; omega)) only [↓amPre, amAll, ↓reduceIte, reduceCtorEq, Nat.reduceEqDiff, Nat.reduceBEq, Nat.reduceAdd, Nat.reduceLeDiff, Nat.reduceSub, Nat.reduceMul, Int.reduceToNat, List.size_toArray, tyF, MM, bu0, ipure, kpure, tpure, sspure, kset, tset, ksnoc, tsnoc, Kind.av, Twist.sl, Twist.tr, Invar.av, stsize, stget, sttl, stapp, stext, tsspure, Model.sl, Model.tr, vset, vsnoc, vpure, Puzz.sl, Puzz.tr, c2]
    refine fin _ ?_
    simp only [reduceCtorEq, false_iff]
    exact fun q => c2 q.1
  simp -dsimp -implicitDefEqProofs (disch := first | omega | (simp only [lenr]; done) | (simp only [lenr]; omega)) only [↓amPre, amAll, ↓reduceIte, reduceCtorEq, Nat.reduceEqDiff, Nat.reduceBEq, Nat.reduceAdd, Nat.reduceLeDiff, Nat.reduceSub, Nat.reduceMul, Int.reduceToNat, List.size_toArray, tyF, MM, bu0, ipure, kpure, tpure, sspure, kset, tset, ksnoc, tsnoc, Kind.av, Twist.sl, Twist.tr, Invar.av, stsize, stget, sttl, stapp, stext, tsspure, Model.sl, Model.tr, vset, vsnoc, vpure, Puzz.sl, Puzz.tr, c2]
  have c2l := c2.2.1
  refine awp_loop (fun k st => k ≤ p.nm.length ∧ st.fr 3 = .i64 k ∧ st.fr 1 = .loc 1 [] 0 0 ∧ st.mem 1 = some (.pt 3 (.agg [.i64 p.n, .st p.nm, ssl p.mv])) ∧ lettersOk (p.nm.take k)) (p.nm.length) ?_ ?_
  · simp -dsimp -implicitDefEqProofs (disch := first | omega | (simp only [lenr]; done) | (simp only [lenr]; omega)) only [↓amPre, amAll, ↓reduceIte, reduceCtorEq, Nat.reduceEqDiff, Nat.reduceBEq, Nat.reduceAdd, Nat.reduceLeDiff, Nat.reduceSub, Nat.reduceMul, Int.reduceToNat, List.size_toArray, tyF, MM, bu0, ipure, kpure, tpure, sspure, kset, tset, ksnoc, tsnoc, Kind.av, Twist.sl, Twist.tr, Invar.av, stsize, stget, sttl, stapp, stext, tsspure, Model.sl, Model.tr, vset, vsnoc, vpure, Puzz.sl, Puzz.tr]
    simp [lettersOk]
  rintro k st _ ⟨hk, f3, f1, m1, ek⟩
  by_cases hlt : k < p.nm.length
  · have hlt2 := letters_take p.nm k hlt
    simp -dsimp -implicitDefEqProofs (disch := first | omega | (simp only [lenr]; done) | (simp only [lenr]; omega)) only [↓amPre, amAll, ↓reduceIte, reduceCtorEq, Nat.reduceEqDiff, Nat.reduceBEq, Nat.reduceAdd, Nat.reduceLeDiff, Nat.reduceSub, Nat.reduceMul, Int.reduceToNat, List.size_toArray, tyF, MM, bu0, ipure, kpure, tpure, sspure, kset, tset, ksnoc, tsnoc, Kind.av, Twist.sl, Twist.tr, Invar.av, stsize, stget, sttl, stapp, stext, tsspure, Model.sl, Model.tr, vset, vsnoc, vpure, Puzz.sl, Puzz.tr, f3, f1, m1]
    refine callP_of (moveName p.nm k hlt h2) ?_
    by_cases w : nameAt p.nm k
    · simp -dsimp -implicitDefEqProofs (disch := first | omega | (simp only [lenr]; done) | (simp only [lenr]; omega)) only [↓amPre, amAll, ↓reduceIte, reduceCtorEq, Nat.reduceEqDiff, Nat.reduceBEq, Nat.reduceAdd, Nat.reduceLeDiff, Nat.reduceSub, Nat.reduceMul, Int.reduceToNat, List.size_toArray, tyF, MM, bu0, ipure, kpure, tpure, sspure, kset, tset, ksnoc, tsnoc, Kind.av, Twist.sl, Twist.tr, Invar.av, stsize, stget, sttl, stapp, stext, tsspure, Model.sl, Model.tr, vset, vsnoc, vpure, Puzz.sl, Puzz.tr, f3, f1, m1, w]
      repeat' (first | omega | rfl | exact i64c (by omega) | exact vic (by omega) | exact hlt2.2 ⟨ek, w⟩ | apply And.intro)
    · simp -dsimp -implicitDefEqProofs (disch := first | omega | (simp only [lenr]; done) | (simp only [lenr]; omega)) only [↓amPre, amAll, ↓reduceIte, reduceCtorEq, Nat.reduceEqDiff, Nat.reduceBEq, Nat.reduceAdd, Nat.reduceLeDiff, Nat.reduceSub, Nat.reduceMul, Int.reduceToNat, List.size_toArray, tyF, MM, bu0, ipure, kpure, tpure, sspure, kset, tset, ksnoc, tsnoc, Kind.av, Twist.sl, Twist.tr, Invar.av, stsize, stget, sttl, stapp, stext, tsspure, Model.sl, Model.tr, vset, vsnoc, vpure, Puzz.sl, Puzz.tr, w]
      refine fin _ ?_
      simp only [reduceCtorEq, false_iff]
      exact fun q => w (hlt2.1 (letters_mono q.2.1.1 _)).2
  · have hke : k = p.nm.length := by omega
    subst hke
    rw [List.take_length] at ek
    simp -dsimp -implicitDefEqProofs (disch := first | omega | (simp only [lenr]; done) | (simp only [lenr]; omega)) only [↓amPre, amAll, ↓reduceIte, reduceCtorEq, Nat.reduceEqDiff, Nat.reduceBEq, Nat.reduceAdd, Nat.reduceLeDiff, Nat.reduceSub, Nat.reduceMul, Int.reduceToNat, List.size_toArray, tyF, MM, bu0, ipure, kpure, tpure, sspure, kset, tset, ksnoc, tsnoc, Kind.av, Twist.sl, Twist.tr, Invar.av, stsize, stget, sttl, stapp, stext, tsspure, Model.sl, Model.tr, vset, vsnoc, vpure, Puzz.sl, Puzz.tr, f3, f1, m1]
    refine fin _ ?_
    simp only [true_iff]
    exact ⟨c2, ⟨ek, by omega, by omega⟩, by omega⟩
theorem sWordOf (n : Int) (w : List Int) (hn : intOk n) (hw : w.length ≤ 1099511627776) (hv : ∀ x ∈ w, intOk x) : SpecAt Try.prog 102 [.i64 n, isl w] (.bl (decide (wordOk n w))) := by
  unfold intOk at hn
  refine spec_of_awp (M := MM) (np := 2) (fz := true) mixed Try.func102 rfl rfl (by decide) rfl (Nat.le_refl _) (by decide +kernel) (.inr ⟨rfl, rfl⟩) trivial ?_
  have fin : ∀ b : Bool, (b = true ↔ wordOk n w) → Value.bool b = Value.bool (decide (wordOk n w)) := fun b h => bl_eq (by rw [h, decide_eq_true_iff])
  by_cases c1 : (200 : Int) < w.length
  · simp -dsimp -implicitDefEqProofs (disch := first | omega | (simp only [lenr]; done) | (simp only [lenr]; omega)) only [↓amPre, amAll, ↓reduceIte, reduceCtorEq, Nat.reduceEqDiff, Nat.reduceBEq, Nat.reduceAdd, Nat.reduceLeDiff, Nat.reduceSub, Nat.reduceMul, Int.reduceToNat, List.size_toArray, tyF, MM, bu0, ipure, kpure, tpure, sspure, kset, tset, ksnoc, tsnoc, Kind.av, Twist.sl, Twist.tr, Invar.av, stsize, stget, sttl, stapp, stext, tsspure, Model.sl, Model.tr, vset, vsnoc, vpure, Puzz.sl, Puzz.tr, lt_true c1]
    refine fin _ ?_
    simp only [reduceCtorEq, false_iff]
    intro q; have := q.1; omega
  simp -dsimp -implicitDefEqProofs (disch := first | omega | (simp only [lenr]; done) | (simp only [lenr]; omega)) only [↓amPre, amAll, ↓reduceIte, reduceCtorEq, Nat.reduceEqDiff, Nat.reduceBEq, Nat.reduceAdd, Nat.reduceLeDiff, Nat.reduceSub, Nat.reduceMul, Int.reduceToNat, List.size_toArray, tyF, MM, bu0, ipure, kpure, tpure, sspure, kset, tset, ksnoc, tsnoc, Kind.av, Twist.sl, Twist.tr, Invar.av, stsize, stget, sttl, stapp, stext, tsspure, Model.sl, Model.tr, vset, vsnoc, vpure, Puzz.sl, Puzz.tr, lt_false (Int.not_lt.1 c1)]
  refine awp_loop (fun k st => k ≤ w.length ∧ st.fr 5 = .i64 k ∧ st.fr 0 = .i64 n ∧ st.fr 1 = isl w ∧ ∀ x ∈ w.take k, letOk n x) (w.length) ?_ ?_
  · simp -dsimp -implicitDefEqProofs (disch := first | omega | (simp only [lenr]; done) | (simp only [lenr]; omega)) only [↓amPre, amAll, ↓reduceIte, reduceCtorEq, Nat.reduceEqDiff, Nat.reduceBEq, Nat.reduceAdd, Nat.reduceLeDiff, Nat.reduceSub, Nat.reduceMul, Int.reduceToNat, List.size_toArray, tyF, MM, bu0, ipure, kpure, tpure, sspure, kset, tset, ksnoc, tsnoc, Kind.av, Twist.sl, Twist.tr, Invar.av, stsize, stget, sttl, stapp, stext, tsspure, Model.sl, Model.tr, vset, vsnoc, vpure, Puzz.sl, Puzz.tr]
    simp
  rintro k st _ ⟨hk, f5, f0, f1, ek⟩
  by_cases hlt : k < w.length
  · have hmem := mem_getD w k 0 hlt
    have hx := hv _ hmem
    unfold intOk at hx
    by_cases d1 : w.getD k 0 = 0
    · simp -dsimp -implicitDefEqProofs (disch := first | omega | (simp only [lenr]; done) | (simp only [lenr]; omega)) only [↓amPre, amAll, ↓reduceIte, reduceCtorEq, Nat.reduceEqDiff, Nat.reduceBEq, Nat.reduceAdd, Nat.reduceLeDiff, Nat.reduceSub, Nat.reduceMul, Int.reduceToNat, List.size_toArray, tyF, MM, bu0, ipure, kpure, tpure, sspure, kset, tset, ksnoc, tsnoc, Kind.av, Twist.sl, Twist.tr, Invar.av, stsize, stget, sttl, stapp, stext, tsspure, Model.sl, Model.tr, vset, vsnoc, vpure, Puzz.sl, Puzz.tr, f5, f0, f1, d1]
      refine fin _ ?_
      simp only [reduceCtorEq, false_iff]
      exact fun q => (q.2 _ hmem).1 d1
    simp -dsimp -implicitDefEqProofs (disch := first | omega | (simp only [lenr]; done) | (simp only [lenr]; omega)) only [↓amPre, amAll, ↓reduceIte, reduceCtorEq, Nat.reduceEqDiff, Nat.reduceBEq, Nat.reduceAdd, Nat.reduceLeDiff, Nat.reduceSub, Nat.reduceMul, Int.reduceToNat, List.size_toArray, tyF, MM, bu0, ipure, kpure, tpure, sspure, kset, tset, ksnoc, tsnoc, Kind.av, Twist.sl, Twist.tr, Invar.av, stsize, stget, sttl, stapp, stext, tsspure, Model.sl, Model.tr, vset, vsnoc, vpure, Puzz.sl, Puzz.tr, f5, f0, f1, eq_false d1]
    refine callP_of (inRange _ _ _) ?_
    by_cases d2 : -8 ≤ w.getD k 0 ∧ w.getD k 0 ≤ 8
    case neg =>
      simp -dsimp -implicitDefEqProofs (disch := first | omega | (simp only [lenr]; done) | (simp only [lenr]; omega)) only [↓amPre, amAll, ↓reduceIte, reduceCtorEq, Nat.reduceEqDiff, Nat.reduceBEq, Nat.reduceAdd, Nat.reduceLeDiff, Nat.reduceSub, Nat.reduceMul, Int.reduceToNat, List.size_toArray, tyF, MM, bu0, ipure, kpure, tpure, sspure, kset, tset, ksnoc, tsnoc, Kind.av, Twist.sl, Twist.tr, Invar.av, stsize, stget, sttl, stapp, stext, tsspure, Model.sl, Model.tr, vset, vsnoc, vpure, Puzz.sl, Puzz.tr, f5, f0, f1, within_not.2 d2]
      refine fin _ ?_
      simp only [reduceCtorEq, false_iff]
      exact fun q => d2 (q.2 _ hmem).2.1
    by_cases d3 : n < w.getD k 0
    · simp -dsimp -implicitDefEqProofs (disch := first | omega | (simp only [lenr]; done) | (simp only [lenr]; omega)) only [↓amPre, amAll, ↓reduceIte, reduceCtorEq, Nat.reduceEqDiff, Nat.reduceBEq, Nat.reduceAdd, Nat.reduceLeDiff, Nat.reduceSub, Nat.reduceMul, Int.reduceToNat, List.size_toArray, tyF, MM, bu0, ipure, kpure, tpure, sspure, kset, tset, ksnoc, tsnoc, Kind.av, Twist.sl, Twist.tr, Invar.av, stsize, stget, sttl, stapp, stext, tsspure, Model.sl, Model.tr, vset, vsnoc, vpure, Puzz.sl, Puzz.tr, f5, f0, f1, within_iff.2 d2, lt_true d3]
      refine fin _ ?_
      simp only [reduceCtorEq, false_iff]
      intro q; have := (q.2 _ hmem).2.2.1; omega
    by_cases d4 : n < -w.getD k 0
    · simp -dsimp -implicitDefEqProofs (disch := first | omega | (simp only [lenr]; done) | (simp only [lenr]; omega)) only [↓amPre, amAll, ↓reduceIte, reduceCtorEq, Nat.reduceEqDiff, Nat.reduceBEq, Nat.reduceAdd, Nat.reduceLeDiff, Nat.reduceSub, Nat.reduceMul, Int.reduceToNat, List.size_toArray, tyF, MM, bu0, ipure, kpure, tpure, sspure, kset, tset, ksnoc, tsnoc, Kind.av, Twist.sl, Twist.tr, Invar.av, stsize, stget, sttl, stapp, stext, tsspure, Model.sl, Model.tr, vset, vsnoc, vpure, Puzz.sl, Puzz.tr, f5, f0, f1, within_iff.2 d2, lt_false (Int.not_lt.1 d3), lt_true d4]
      refine fin _ ?_
      simp only [reduceCtorEq, false_iff]
      intro q; have := (q.2 _ hmem).2.2.2; omega
    simp -dsimp -implicitDefEqProofs (disch := first | omega | (simp only [lenr]; done) | (simp only [lenr]; omega)) only [↓amPre, amAll, ↓reduceIte, reduceCtorEq, Nat.reduceEqDiff, Nat.reduceBEq, Nat.reduceAdd, Nat.reduceLeDiff, Nat.reduceSub, Nat.reduceMul, Int.reduceToNat, List.size_toArray, tyF, MM, bu0, ipure, kpure, tpure, sspure, kset, tset, ksnoc, tsnoc, Kind.av, Twist.sl, Twist.tr, Invar.av, stsize, stget, sttl, stapp, stext, tsspure, Model.sl, Model.tr, vset, vsnoc, vpure, Puzz.sl, Puzz.tr, f5, f0, f1, within_iff.2 d2, lt_false (Int.not_lt.1 d3), lt_false (Int.not_lt.1 d4)]
    repeat' (first | omega | rfl | exact i64c (by omega) | exact vic (by omega) | exact (mem_take_succ (d := 0) hlt).2 ⟨ek, d1, d2, by omega, by omega⟩ | apply And.intro)
  · have hke : k = w.length := by omega
    subst hke
    rw [List.take_length] at ek
    simp -dsimp -implicitDefEqProofs (disch := first | omega | (simp only [lenr]; done) | (simp only [lenr]; omega)) only [↓amPre, amAll, ↓reduceIte, reduceCtorEq, Nat.reduceEqDiff, Nat.reduceBEq, Nat.reduceAdd, Nat.reduceLeDiff, Nat.reduceSub, Nat.reduceMul, Int.reduceToNat, List.size_toArray, tyF, MM, bu0, ipure, kpure, tpure, sspure, kset, tset, ksnoc, tsnoc, Kind.av, Twist.sl, Twist.tr, Invar.av, stsize, stget, sttl, stapp, stext, tsspure, Model.sl, Model.tr, vset, vsnoc, vpure, Puzz.sl, Puzz.tr, f5, f0, f1]
    refine fin _ ?_
    simp only [true_iff]
    exact ⟨by omega, ek⟩
end Go.AM
namespace Go.AM
/-! the library's contracts in this machine's words: plain values in, a plain value out -/
theorem Held.same {I : Gh} {w w' : World} (hh : Held I w) (h : ∀ b o x, I b o = some x → w'.heap[b]? = w.heap[b]?) : Held I w' :=
  ⟨fun b o x hx => by
    have h1 := hh.cell b o x hx
    exact ⟨(World.cell?_of_block (w := w) (a := ⟨b, o, none⟩) (h b o x hx)).trans h1.1, h1.2⟩,
   fun b cs hc => by
    obtain ⟨t, f, x, h1, h2⟩ := hh.base b cs hc
    exact ⟨t, f, x, (h b 0 x h2).trans h1, h2⟩⟩
end Go.AM
namespace Go.AM
/-! a sort of the library's, as its own contract tells it, in this machine's words -/
def srt (l : List Int) : List Int := l.mergeSort fun x y => decide (x ≤ y)
theorem putRow_block {α : Type} [Inhabited α] (enc : α → Value) (w : World) (blk off n : Nat) (d : Array α) (os : Array Obj) {arr : Array Value} {E : TypeId} {fr : Nat × Nat} (h : w.heap[blk]? = some (.cells arr E fr)) :
    (Sort.grow (Sort.putRow enc (Sort.ahead w n) blk off d) os).heap[blk]? = some (.cells (Sort.putCells enc off d arr) E fr) := by
  have hlt : blk < w.heap.size := (Array.getElem?_eq_some_iff.1 h).1
  simp only [Sort.grow, Sort.putRow, Sort.mapBlock, Sort.ahead]
  rw [Array.getElem?_append_left (by simpa using hlt), Array.getElem?_modify, if_pos rfl, h]
  rfl
theorem putRow_other {α : Type} [Inhabited α] (enc : α → Value) (w : World) (blk off n : Nat) (d : Array α) (os : Array Obj) {k : Nat} (hk : k < w.heap.size) (hne : k ≠ blk) :
    (Sort.grow (Sort.putRow enc (Sort.ahead w n) blk off d) os).heap[k]? = w.heap[k]? := by
  simp only [Sort.grow, Sort.putRow, Sort.mapBlock, Sort.ahead]
  rw [Array.getElem?_append_left (by simpa using hk), Array.getElem?_modify, if_neg (Ne.symm hne)]
theorem putRow_size {α : Type} [Inhabited α] (enc : α → Value) (w : World) (blk off n : Nat) (d : Array α) (os : Array Obj) : w.heap.size ≤ (Sort.grow (Sort.putRow enc (Sort.ahead w n) blk off d) os).heap.size := by
  simp only [Sort.grow, Sort.putRow, Sort.mapBlock, Sort.ahead, Array.size_append, Array.size_modify]; omega
theorem putCells_get {α : Type} [Inhabited α] (enc : α → Value) (off : Nat) (d : Array α) (c : Array Value) (k : Nat) (hk : k < c.size) : (Sort.putCells enc off d c).getD k undef = if off ≤ k ∧ k < off + d.size then enc d[k - off]! else c.getD k undef := by
  simp only [Sort.putCells, Array.getD_eq_getD_getElem?, Array.getElem?_mapIdx]
  rw [Array.getElem?_eq_getElem hk]
  simp only [Option.map_some, Option.getD_some]
theorem itr_at (l : List Int) : ∀ (ij : Nat × Nat) (p : Path), ((itr l).at (ij :: p)).isNode = false := fun ij p => by
  show (AV.at (((l.map AV.i64).getD ij.1 .any).cells.getD ij.2 .any) p).isNode = false
  by_cases h : ij.1 < l.length
  · rw [gi l _ h]
    show (AV.at (([AV.i64 (l.getD ij.1 0)] : List AV).getD ij.2 .any) p).isNode = false
    cases ij.2 with
    | zero =>
      show (AV.at (AV.i64 (l.getD ij.1 0)) p).isNode = false
      cases p with
      | nil => rfl
      | cons a p =>
        show (AV.at .any p).isNode = false
        rw [any_at]; rfl
    | succ j =>
      show (AV.at .any p).isNode = false
      rw [any_at]; rfl
  · have e : (l.map AV.i64).getD ij.1 .any = .any := getD_ge (by simp; omega)
    rw [e]
    have e2 : (AV.any).cells.getD ij.2 .any = .any := by cases ij.2 <;> rfl
    rw [e2, any_at]; rfl
theorem node_itr {l : List Int} {p : Path} (h : ((itr l).at p).isNode = true) : p = [] := by
  cases p with
  | nil => rfl
  | cons ij p => rw [itr_at] at h; cases h
end Go.AM
namespace Go.Proofs
open Go.Shelf
def Try.delL_ren : Go.Shelf.Ren := ⟨fun | 10 => 196 | 6 => 218 | n => n, fun | 22 => 52 | 23 => 2 | 25 => 139 | 3 => 3 | 4 => 4 | 0 => 0 | n => n, fun | n => n⟩
theorem Try.delL : Go.Proofs.SlLaysH.n10 Try.prog Try.delL_ren := {
  mixed := by kernel_rfl
  f6 := ⟨Try.f218.name, by decide, Try.func218.trans (congrArg some (by kernel_rfl))⟩
  f10 := ⟨Try.f196.name, by decide, Try.func196.trans (congrArg some (by kernel_rfl))⟩
  t0 := Try.underlying0
  a0 := Try.isAgg0
  z0 := Try.sizeOf0
  v0 := Try.zeroValue0
  t3 := Try.underlying3
  a3 := Try.isAgg3
  z3 := Try.sizeOf3
  v3 := Try.zeroValue3
  t4 := Try.underlying4
  a4 := Try.isAgg4
  z4 := Try.sizeOf4
  v4 := Try.zeroValue4
  t22 := Try.underlying52
  a22 := Try.isAgg52
  z22 := Try.sizeOf52
  v22 := Try.zeroValue52
  a23 := Try.isAgg2
  z23 := Try.sizeOf2
  t25 := Try.underlying139
  a25 := Try.isAgg139
  z25 := Try.sizeOf139
  v25 := Try.zeroValue139 }
end Go.Proofs
set_option maxRecDepth 8000
namespace Go.Proofs
open Go.Shelf Go.RowKit Go.Lib Go.Sort
theorem Scr.same (a b : Int) (hb : -9223372036854775807 ≤ b ∧ b ≤ 9223372036854775807) (W : World) : Calls Try.prog 125 #[.int .i64 a, .int .i64 b] W fun e w' => e = .returned (.bool (decide (Go.AM.sameI a b))) ∧ ∃ q, w' = W.drewN q := by
  have e1 : IntKind.i64.wrap (-b) = -b := IntWalk.i64_in _ (by omega)
  have e2 : IntKind.i64.wrap (0 - b) = -b := by rw [Int.zero_sub]; exact e1
  go_enter Try.func125, Try.ntmps125
  go_wp2
  · go_ret
    rename_i h
    exact ⟨by simp [AM.sameI, h], 0, rfl⟩
  · go_ret
    have e3 : (a == b || a == -b) = decide (AM.sameI a b) := by rw [Bool.eq_iff_iff, decide_eq_true_iff]; simp [AM.sameI]
    exact ⟨by rw [← e3]; rfl, 0, rfl⟩
theorem Scr.gives (i x y : Int) (B o1 B2 o2 b off len cap : Nat) (W : World) (hw : W.cell? ⟨B, o1, none⟩ = some (.slice (some ⟨b, off, none⟩) len cap)) (hi : W.cell? ⟨B2, o2, none⟩ = some (.int .i64 i)) (h1 : 1 ≤ i) (h2 : i ≤ len) (h3 : len ≤ 1099511627776)
    (hy : W.cell? ⟨b, off + (i.toNat - 1), none⟩ = some (.int .i64 y)) (hb : -9223372036854775807 ≤ y ∧ y ≤ 9223372036854775807) :
    FnGives Try.prog 197 #[.pointer (some ⟨B, o1, none⟩), .pointer (some ⟨B2, o2, none⟩)] #[.int .i64 x] (.bool (decide (AM.sameI x y))) W := by
  have e1 : IntKind.i64.wrap (i - 1) = i - 1 := IntWalk.i64_in _ (by omega)
  show Calls Try.prog 197 #[.int .i64 x, .pointer (some ⟨B, o1, none⟩), .pointer (some ⟨B2, o2, none⟩)] W _
  go_enter Try.func197, Try.ntmps197
  go_wp2_with (go_at_call 125; refine (Scr.same _ _ hb W).mono ?_; rintro e w' ⟨rfl, q, rfl⟩)
  go_ret
  exact ⟨rfl, q, rfl⟩
end Go.Proofs
set_option maxRecDepth 8000
namespace Go.AM
open Go.Proofs
/-! slices.DeleteFunc with the closure of a scramble -/
theorem holds_row {I : Gh} {π : Pl} {w : World} {l : List Int} {k : Plc} {arr : Array Value} {E : TypeId} (hblk : w.heap[k.b]? = some (.cells arr E (0, 0))) (harr : k.off + l.length ≤ arr.size)
    (hvals : ∀ i, i < l.length → arr.getD (k.off + i) undef = .int .i64 (l.getD i 0)) : Sort.Holds (Value.int .i64) w k.b k.off l.toArray := fun j hj => by
  have hj : j < l.length := by simpa using hj
  have hlt2 : k.off + j < arr.size := by omega
  have hv := hvals j hj
  constructor
  · show (match w.heap[k.b]? with | some (.cells c _ _) => if (none : Option _).isSome then none else c[k.off + j]? | _ => none) = _
    rw [hblk]
    simp only [Option.isSome_none, Bool.false_eq_true, if_false]
    rw [Array.getElem?_eq_getElem hlt2]
    rw [Array.getD_eq_getD_getElem?, Array.getElem?_eq_getElem hlt2, Option.getD_some] at hv
    rw [hv, getD_eq _ _ _ hj]
    simp [hj]
  · show (match w.heap[k.b]? with | some (.cells _ _ (lo, hi)) => decide (lo ≤ k.off + j) && decide (k.off + j < hi) | _ => false) = false
    rw [hblk]; simp
theorem put_facts (W : World) (blk off n : Nat) (d : Array Int) {arr : Array Value} {E : TypeId} {fr : Nat × Nat} (h : W.heap[blk]? = some (.cells arr E fr)) (w' : World) (hw : w' = Sort.putRow (Value.int .i64) (Sort.ahead W n) blk off d) :
    w'.heap[blk]? = some (.cells (Sort.putCells (Value.int .i64) off d arr) E fr) ∧ (∀ b, b < W.heap.size → b ≠ blk → w'.heap[b]? = W.heap[b]?) ∧ W.heap.size ≤ w'.heap.size ∧ (w'.os = W.os ∧ w'.tape = W.tape ∧ w'.output = W.output) := by
  subst hw
  refine ⟨?_, fun b h1 h2 => ?_, ?_, rfl, rfl, rfl⟩
  · have q := putRow_block (Value.int .i64) W blk off n d #[] h
    rwa [Sort.grow_empty] at q
  · have q := putRow_other (Value.int .i64) W blk off n d #[] h1 h2
    rwa [Sort.grow_empty] at q
  · have q := putRow_size (Value.int .i64) W blk off n d #[]
    rwa [Sort.grow_empty] at q
set_option maxHeartbeats 1000000 in
theorem deleteFunc (l w : List Int) (i : Int) (hl : 0 < l.length) (hl2 : l.length ≤ 1099511627776) (h1 : 1 ≤ i) (h2 : i ≤ w.length) (h3 : w.length ≤ 1099511627776) (hv : ∀ x ∈ w, -9223372036854775807 ≤ x ∧ x ≤ 9223372036854775807) :
    SpecX Try.prog 196 [itr l, .fn 197 [.ep [isl w], .ep [.i64 i]]] [] (itr (l.filter fun x => !decide (sameI x (w.getD (i.toNat - 1) 0)))) := by
  refine ⟨⟨_, _, Try.func196, rfl, by decide⟩, by simp, fun j T hj => by simp at hj, fun I π W vals hI hvs hsep htop => ?_⟩
  obtain ⟨v, fv, rfl⟩ : ∃ v fv, vals = #[v, fv] := by
    match vals, hvs with
    | ⟨[a, b]⟩, _ => exact ⟨a, b, rfl⟩
  have h0 : CellOk I (π 0 []) (itr l) v := htop 0 (by simp) (by simp)
  have hf := top_stat (htop 1 (by simp) (by simp)) rfl
  have hf : RepS I (.fn 197 [.ep [isl w], .ep [.i64 i]]) fv := hf
  have hrow := hsep.row 0 (itr l) [] rfl
  -- the row
  rcases h0 with ⟨_, hd⟩ | ⟨h, _⟩
  case inr => cases h
  rcases hd with ⟨k, hk, hkz, hkc, rfl⟩ | ⟨he, a, rfl⟩
  case inr => have h9 := List.map_eq_nil_iff.1 he; rw [h9] at hl; exact absurd hl (Nat.lt_irrefl 0)
  rcases hrow with ⟨hno, _⟩ | ⟨k', E, arr, hk', hz', hc', hcap, hblk, harr, hcell⟩
  · rw [hk] at hno; cases hno
  rw [hk] at hk'; cases hk'
  simp only [List.length_map] at hkc hc' ⊢
  have hlt : k.b < W.heap.size := (Array.getElem?_eq_some_iff.1 hblk).1
  have harr : k.off + l.length ≤ arr.size := by
    have := Nat.mul_le_mul_right 1 hkc
    simp only [hz', Nat.mul_one] at harr; omega
  have hvals : ∀ i, i < l.length → arr.getD (k.off + i) undef = .int .i64 (l.getD i 0) := fun i hi => by
    have h := (hcell i (by simpa using hi)).2 0 (by simp [AV.cells])
    have h1 : CellOk I (π 0 [(i, 0)]) (AV.i64 l[i]) (arr.getD (k.off + i) undef) := by have h3 := h.1; simpa [AV.cells] using h3
    rcases h1 with ⟨h2, _⟩ | ⟨_, h2⟩
    · cases h2
    · rw [getD_eq _ _ _ hi]
      exact rep_v (.stat (ρ := π) h2)
  have hholds := holds_row (I := I) (π := π) hblk harr hvals
  have hfree := hsep.free 0 (itr l) [] k rfl rfl hk
  -- the closure's variables
  obtain ⟨x0, x1, rfl, hr0, hr1⟩ : ∃ x0 x1 : Value, fv = .func (.func 197) #[] #[x0, x1] ∧ RepS I (.ep [isl w]) x0 ∧ RepS I (.ep [.i64 i]) x1 := by
    cases hf with
    | fn _ _ arr2 hn hr =>
      have hn2 : arr2.size = 2 := by simpa using hn
      have e : arr2 = #[arr2[0], arr2[1]] := by
        apply Array.ext
        · simp [hn2]
        · intro j hj1 hj2
          have hj : j = 0 ∨ j = 1 := by omega
          rcases hj with rfl | rfl <;> simp
      exact ⟨arr2[0], arr2[1], by rw [← e], hr 0 (by simp) (by omega), hr 1 (by simp) (by omega)⟩
  obtain ⟨B, o1, rfl, hd1, c1, r1⟩ : ∃ B o1, x0 = .pointer (some ⟨B, o1, none⟩) ∧ ∃ hd, I B o1 = some hd ∧ RepS I (isl w) hd := by
    cases hr0 with
    | ep _ b off vals hI' hr' => exact ⟨b, off, rfl, vals 0, hI' 0 (by simp), hr' 0 (by simp)⟩
  obtain ⟨B2, o2, rfl, c2⟩ : ∃ B o1, x1 = .pointer (some ⟨B, o1, none⟩) ∧ I B o1 = some (.int .i64 i) := by
    cases hr1 with
    | ep _ b off vals hI' hr' =>
      have q : RepS I (.i64 i) (vals 0) := hr' 0 (by simp)
      have q2 := rep_v (.stat (ρ := π) q)
      have q3 := hI' 0 (by simp)
      rw [q2] at q3
      exact ⟨b, off, rfl, q3⟩
  have hwn : 0 < w.length := by omega
  obtain ⟨b, off, cap, rfl, c3⟩ : ∃ b off cap, hd1 = .slice (some ⟨b, off, none⟩) w.length cap ∧ ∀ j, j < w.length → I b (off + j) = some (.int .i64 (w.getD j 0)) := by
    have r1 : RepS I (.sl 1 (w.map AV.i64)) hd1 := r1
    generalize hes : w.map AV.i64 = es at r1
    have hel : es.length = w.length := by rw [← hes]; simp
    cases r1 with
    | nil => simp at hel; omega
    | nila => simp at hel; omega
    | sl _ _ b off cap vs hsz hc hI' hr' =>
      refine ⟨b, off, cap, by rw [hel], fun j hj => ?_⟩
      have hj' : j < es.length := by omega
      have e : es[j] = AV.i64 (w.getD j 0) := by subst hes; simp [List.getD, hj]
      have hlen : 0 < (es[j]).cells.length := by rw [e]; simp [AV.cells]
      have q := hr' j hj' 0 hlen
      have e2 : (es[j]).cells[0] = AV.i64 (w.getD j 0) := by
        have : (es[j]).cells = [AV.i64 (w.getD j 0)] := by rw [e]; rfl
        simp [this]
      rw [e2] at q
      have q2 := rep_v (.stat (ρ := π) q)
      have q3 := hI' j hj' 0 (by omega)
      rw [q2] at q3
      simpa using q3
  have hy := c3 (i.toNat - 1) (by omega)
  have hb : -9223372036854775807 ≤ w.getD (i.toNat - 1) 0 ∧ w.getD (i.toNat - 1) 0 ≤ 9223372036854775807 := by
    rw [getD_eq _ _ _ (by omega)]; exact hv _ (List.getElem_mem (by omega))
  generalize hyv : w.getD (i.toNat - 1) 0 = y at hy hb ⊢
  have ne : ∀ {B o x}, I B o = some x → B ≠ k.b := fun h e => by rw [e, hfree] at h; cases h
  have gives : ∀ (W' : World) (x : Int), (∀ B o z, I B o = some z → W'.cell? ⟨B, o, none⟩ = some z) → FnGives Try.prog 197 #[.pointer (some ⟨B, o1, none⟩), .pointer (some ⟨B2, o2, none⟩)] #[.int .i64 x] (.bool (decide (sameI x y))) W' := fun W' x h =>
    Scr.gives i x y B o1 B2 o2 b off w.length cap W' (h _ _ _ c1) (h _ _ _ c2) h1 h2 h3 (h _ _ _ hy) hb
  have eg : ∀ args w, (callFunc 197 args).run Try.prog w = .ok (.enter 197 args) w := enters_of Try.func197 (by kernel_rfl) rfl
  have key := AnyE.slices_DeleteFunc Try.delL (Value.int .i64) (fun _ => rfl) (fun x => decide (sameI x y)) 197 #[.pointer (some ⟨B, o1, none⟩), .pointer (some ⟨B2, o2, none⟩)] eg 0 Try.zeroValue2 k.b k.off k.cap l.toArray W
    (fun W' x hb' => gives W' x fun B o z hz => (hb'.cell (p := ⟨B, o, none⟩) (hI.lt hz)).trans (hI.cell _ _ _ hz).1)
    (fun n os dk x _ => gives _ x fun B o z hz => by
      unfold sortWorld
      rw [Sort.cell?_grow _ _ _ (by show B < (Sort.putRow _ _ _ _ _).heap.size; rw [Sort.size_putRow]; exact hI.lt hz), Sort.cell?_putRow_other _ _ k.b k.off _ _ (Or.inl (ne hz))]
      exact (hI.cell _ _ _ hz).1)
    hholds (by simp; omega) (by simpa using hkc)
  have key : Calls Try.prog 196 #[.slice (some ⟨k.b, k.off, none⟩) l.length k.cap, .func (.func 197) #[] #[.pointer (some ⟨B, o1, none⟩), .pointer (some ⟨B2, o2, none⟩)]] W fun e w' =>
      e = .returned (.slice (some ⟨k.b, k.off, none⟩) (l.filter fun x => !decide (sameI x y)).length k.cap) ∧ ∃ q, w' = Sort.putRow (Value.int .i64) (Sort.ahead W q) k.b k.off ((l.filter fun x => !decide (sameI x y)) ++ List.replicate (l.length - (l.filter fun x => !decide (sameI x y)).length) 0).toArray := by
    have e1 : l.toArray.toList = l := rfl
    have e2 : l.toArray.size = l.length := rfl
    rw [e1, e2] at key
    exact key
  have hfl : (l.filter fun x => !decide (sameI x y)).length ≤ l.length := List.length_filter_le _ _
  generalize (l.filter fun x => !decide (sameI x y)) = r at key hfl ⊢
  refine key.mono ?_
  rintro e w' ⟨rfl, n, hw⟩
  obtain ⟨hb', ho', hsz, hos⟩ := put_facts W k.b k.off n _ hblk w' hw
  clear hw key
  have hmem : ∀ {i T p}, outMem 2 [] (itr r) i = some T → (T.at p).isNode = true → i = 2 ∧ T = itr r ∧ p = [] := fun {i T p} h1 h2 => by
    unfold outMem at h1
    split at h1
    · rename_i e; cases h1; exact ⟨e, rfl, node_itr h2⟩
    · simp at h1
  have hown : Owns π (fun j => ([itr l, .fn 197 [.ep [isl w], .ep [.i64 i]]] : List AV)[j]?) k.b := ⟨0, itr l, [], k, rfl, rfl, hk, rfl⟩
  have hlen2 : ([itr l, .fn 197 [.ep [isl w], .ep [.i64 i]]] : List AV).length = 2 := rfl
  rw [hlen2]
  refine ⟨I, fun _ => π 0, _, rfl, hI.same fun b o x hx => ho' b (hI.lt hx) (ne hx), ⟨fun i T p h1 => ?_, fun i T p k2 h1 h2 h3 => ?_, fun i T p k2 i' T' p' k2' h1 h2 h3 h1' h2' h3' he => ?_⟩, .inl ⟨rfl, .inl ⟨k, hk, hkz, by simp; omega, by simp⟩⟩, fun j T hT => by simp at hT, ⟨hos.1, hos.2.1, hos.2.2, hsz, fun b h1 h2 => ?_⟩, fun _ _ _ => rfl, fun b hb2 => ?_⟩
  · cases hnn : (T.at p).isNode with
    | false => exact node_false hnn
    | true =>
      obtain ⟨rfl, rfl, rfl⟩ := hmem h1 hnn
      refine .inr ⟨k, E, _, hk, hkz, by simp; omega, hcap, hb', by simpa [Sort.putCells] using (by assumption : k.off + k.cap * 1 ≤ arr.size), fun i hi => ?_⟩
      have hi : i < r.length := by simpa using hi
      have hia : k.off + i < arr.size := by omega
      refine ⟨by simp [AV.cells], fun j hj => ?_⟩
      have hj : j = 0 := by simp [AV.cells] at hj; exact hj
      subst hj
      simp only [List.getElem_map, Nat.mul_one, Nat.add_zero]
      rw [putCells_get _ _ _ _ _ hia, if_pos ⟨by omega, by simp; omega⟩]
      have e : (r ++ List.replicate (l.length - r.length) 0).toArray[k.off + i - k.off]! = r[i] := by
        rw [show k.off + i - k.off = i by omega]
        have h8 : i < (r ++ List.replicate (l.length - r.length) (0 : Int)).toArray.size := by simp; omega
        rw [getElem!_pos (r ++ List.replicate (l.length - r.length) (0 : Int)).toArray i h8]
        simp [List.getElem_append_left hi]
      rw [e]
      exact ⟨.inr ⟨rfl, .v _⟩, rfl⟩
  · obtain ⟨rfl, rfl, rfl⟩ := hmem h1 h2
    exact hsep.free 0 (itr l) [] k2 rfl rfl h3
  · obtain ⟨rfl, rfl, rfl⟩ := hmem h1 h2
    obtain ⟨rfl, rfl, rfl⟩ := hmem h1' h2'
    exact ⟨rfl, rfl⟩
  · exact ho' b h1 fun e => by subst e; exact h2 hown
  · obtain ⟨i, T, p, k2, h1, h2, h3, rfl⟩ := hb2
    obtain ⟨rfl, rfl, rfl⟩ := hmem h1 h2
    exact .inl ⟨0, itr l, [], k2, rfl, rfl, h3, rfl⟩
end Go.AM
namespace Go.AM
/-! words of scrambles, plainly -/
def nextR (x : Int) : Int := (48271 * (if x.tmod 2147483647 < 0 then x.tmod 2147483647 + 2147483647 else x.tmod 2147483647) + 11).tmod 2147483647
theorem nextR_bd {x : Int} (h0 : 0 ≤ x) : 0 ≤ nextR x ∧ nextR x < 2147483647 := by
  have h1 : 0 ≤ x.tmod 2147483647 := Int.tmod_nonneg _ h0
  unfold nextR
  rw [if_neg (by omega)]
  have h2 : 0 ≤ 48271 * x.tmod 2147483647 + 11 := by omega
  exact ⟨Int.tmod_nonneg _ h2, Int.tmod_lt_of_pos _ (by omega)⟩
def rndK (x : Int) : Nat → Int
  | 0 => x
  | k + 1 => nextR (rndK x k)
theorem rndK_bd {x : Int} (h0 : 0 ≤ x) (h1 : x < 2147483647) : ∀ k, 0 ≤ rndK x k ∧ rndK x k < 2147483647
  | 0 => ⟨h0, h1⟩
  | k + 1 => nextR_bd (rndK_bd h0 h1 k).1
def letL : Nat → List Int
  | 0 => []
  | k + 1 => letL k ++ [(k : Int) + 1, -((k : Int) + 1)]
theorem letL_len : ∀ n, (letL n).length = 2 * n
  | 0 => rfl
  | n + 1 => by rw [letL, List.length_append, letL_len n]; simp; omega
theorem letL_mem : ∀ {n : Nat} {x : Int}, x ∈ letL n ↔ x ≠ 0 ∧ -(n : Int) ≤ x ∧ x ≤ n
  | 0, x => by simp [letL]; omega
  | n + 1, x => by
    rw [letL, List.mem_append, letL_mem]
    simp only [List.mem_cons, List.not_mem_nil, or_false]
    omega
def lastW (w : List Int) : Int := w.getD (w.length - 1) 0
def cndL (n : Nat) (w : List Int) : List Int := if w ≠ [] ∧ 1 < n then (letL n).filter (fun x => !decide (sameI x (lastW w))) else letL n
def cndB (n : Nat) (w : List Int) (k : Nat) : Prop := n = 1 ∨ w = [] ∨ genI (lastW w) ≠ k
instance (n : Nat) (w : List Int) (k : Nat) : Decidable (cndB n w k) := by unfold cndB; infer_instance
def cndS (n : Nat) (w : List Int) : Nat → List Int
  | 0 => []
  | k + 1 => if cndB n w k then cndS n w k ++ [(k : Int) + 1, -(k : Int) - 1] else cndS n w k
theorem cndL_mem {n : Nat} {w : List Int} {x : Int} (h : x ∈ cndL n w) : x ∈ letL n := by
  unfold cndL at h
  split at h
  · exact (List.mem_filter.1 h).1
  · exact h
theorem cndL_len {n : Nat} {w : List Int} (hn : 1 ≤ n) : 0 < (cndL n w).length ∧ (cndL n w).length ≤ 2 * n := by
  unfold cndL
  split
  · rename_i c
    refine ⟨?_, by have := List.length_filter_le (fun x => !decide (sameI x (lastW w))) (letL n); rw [letL_len] at this; exact this⟩
    by_cases h : sameI 1 (lastW w)
    · refine List.length_pos_of_mem (a := 2) (List.mem_filter.2 ⟨letL_mem.2 ⟨by omega, by omega, by omega⟩, ?_⟩)
      have : ¬ sameI 2 (lastW w) := by unfold sameI at h ⊢; omega
      simp [this]
    · exact List.length_pos_of_mem (a := 1) (List.mem_filter.2 ⟨letL_mem.2 ⟨by omega, by omega, by omega⟩, by simp [h]⟩)
  · rw [letL_len]; omega
def scrW (n : Nat) (x : Int) : Nat → List Int
  | 0 => []
  | k + 1 => scrW n x k ++ [(cndL n (scrW n x k)).getD ((rndK x (k + 1)).tmod (cndL n (scrW n x k)).length).toNat 0]
theorem scrW_len (n : Nat) (x : Int) : ∀ k, (scrW n x k).length = k
  | 0 => rfl
  | k + 1 => by rw [scrW, List.length_append, scrW_len n x k]; rfl
theorem scr_ix {n : Nat} {x : Int} (hn : 1 ≤ n) (h0 : 0 ≤ x) (h1 : x < 2147483647) (k : Nat) (w : List Int) : 0 ≤ (rndK x (k + 1)).tmod (cndL n w).length ∧ (rndK x (k + 1)).tmod (cndL n w).length < (cndL n w).length := by
  have hl := cndL_len (n := n) (w := w) hn
  exact ⟨Int.tmod_nonneg _ (rndK_bd h0 h1 (k + 1)).1, Int.tmod_lt_of_pos _ (by omega)⟩
theorem scrW_mem {n : Nat} {x : Int} (hn : 1 ≤ n) (h0 : 0 ≤ x) (h1 : x < 2147483647) : ∀ k, ∀ y ∈ scrW n x k, y ∈ letL n
  | 0, y, h => by cases h
  | k + 1, y, h => by
    rw [scrW, List.mem_append] at h
    rcases h with h | h
    · exact scrW_mem hn h0 h1 k y h
    · have hi := scr_ix hn h0 h1 k (scrW n x k)
      rw [List.mem_singleton] at h
      subst h
      have hlt : ((rndK x (k + 1)).tmod (cndL n (scrW n x k)).length).toNat < (cndL n (scrW n x k)).length := by omega
      rw [getD_eq _ _ _ hlt]
      exact cndL_mem (List.getElem_mem hlt)
end Go.AM
set_option maxRecDepth 8000
namespace Go.AM
open Go.Proofs
theorem iNext (x : Int) (hx : intOk x) : SpecAt Try.prog 198 [.i64 x] (.i64 (nextR x)) := by
  have hb : -2147483647 < x.tmod 2147483647 ∧ x.tmod 2147483647 < 2147483647 := by
    have h1 := Int.tmod_lt_of_pos x (b := 2147483647) (by omega)
    have h2 := Int.lt_tmod_of_pos x (b := 2147483647) (by omega)
    exact ⟨h2, h1⟩
  refine spec_of_awp (M := MM) (np := 1) (fz := true) mixed Try.func198 rfl rfl (by decide) rfl (Nat.le_refl _) (by decide +kernel) (.inr ⟨rfl, rfl⟩) trivial ?_
  unfold nextR
  generalize hyd : x.tmod 2147483647 = y at hb ⊢
  by_cases c : y < 0
  · rw [if_pos c]
    simp -dsimp -implicitDefEqProofs (disch := first | omega | (simp only [lenr]; done) | (simp only [lenr]; omega)) only [↓amPre, amAll, ↓reduceIte, reduceCtorEq, Nat.reduceEqDiff, Nat.reduceBEq, Nat.reduceAdd, Nat.reduceLeDiff, Nat.reduceSub, Nat.reduceMul, Int.reduceToNat, List.size_toArray, tyF, MM, bu0, ipure, kpure, tpure, sspure, kset, tset, ksnoc, tsnoc, Kind.av, Twist.sl, Twist.tr, Invar.av, stsize, stget, sttl, stapp, stext, tsspure, Model.sl, Model.tr, vset, vsnoc, vpure, Puzz.sl, Puzz.tr, hyd, lt_true c]
  · rw [if_neg c]
    simp -dsimp -implicitDefEqProofs (disch := first | omega | (simp only [lenr]; done) | (simp only [lenr]; omega)) only [↓amPre, amAll, ↓reduceIte, reduceCtorEq, Nat.reduceEqDiff, Nat.reduceBEq, Nat.reduceAdd, Nat.reduceLeDiff, Nat.reduceSub, Nat.reduceMul, Int.reduceToNat, List.size_toArray, tyF, MM, bu0, ipure, kpure, tpure, sspure, kset, tset, ksnoc, tsnoc, Kind.av, Twist.sl, Twist.tr, Invar.av, stsize, stget, sttl, stapp, stext, tsspure, Model.sl, Model.tr, vset, vsnoc, vpure, Puzz.sl, Puzz.tr, hyd, lt_false (Int.not_lt.1 c)]

theorem lettersI (n : Nat) (hn : n ≤ 8) : SpecAt Try.prog 195 [.i64 n] (itr (letL n)) := by
  refine spec_of_awp (M := MM) (np := 1) (fz := false) mixed Try.func195 rfl rfl (by decide) rfl (Nat.le_refl _) (by decide +kernel) (.inl rfl) (by first | trivial | simp only [sigsOk_nil, sigsOk_some, sigsOk_none, sig_tr, sig_pt, sig_mt, sig_agg, List.map_cons, List.map_nil, sig1_tr, sig1_pt, sig1_v, and_self, true_and, List.length_map, List.length_set]) ?_
  simp -dsimp -implicitDefEqProofs (disch := first | omega | (simp only [lenr]; done) | (simp only [lenr]; omega)) only [↓amPre, amAll, ↓reduceIte, reduceCtorEq, Nat.reduceEqDiff, Nat.reduceBEq, Nat.reduceAdd, Nat.reduceLeDiff, Nat.reduceSub, Nat.reduceMul, Int.reduceToNat, List.size_toArray, tyF, MM, bu0, ipure, kpure, tpure, sspure, kset, tset, ksnoc, tsnoc, Kind.av, Twist.sl, Twist.tr, Invar.av, stsize, stget, sttl, stapp, stext, tsspure, Model.sl, Model.tr, vset, vsnoc, vpure, Puzz.sl, Puzz.tr]
  refine awp_loopN 3 16 1 (by simp -dsimp -implicitDefEqProofs (disch := first | omega | (simp only [lenr]; done) | (simp only [lenr]; omega)) only [↓amPre, amAll, ↓reduceIte, reduceCtorEq, Nat.reduceEqDiff, Nat.reduceBEq, Nat.reduceAdd, Nat.reduceLeDiff, Nat.reduceSub, Nat.reduceMul, Int.reduceToNat, List.size_toArray, tyF, MM, bu0, ipure, kpure, tpure, sspure, kset, tset, ksnoc, tsnoc, Kind.av, Twist.sl, Twist.tr, Invar.av, stsize, stget, sttl, stapp, stext, tsspure, Model.sl, Model.tr, vset, vsnoc, vpure, Puzz.sl, Puzz.tr]) (by decide) (fun k st => k ≤ n ∧ st.fr 6 = .i64 k ∧ st.fr 5 = .i64 n ∧ st.fr 3 = .ref 16 [] 1 0 (2 * k) ∧ st.mem 16 = some (itr (letL k))) (n) ?_ ?_
  · simp -dsimp -implicitDefEqProofs (disch := first | omega | (simp only [lenr]; done) | (simp only [lenr]; omega)) only [↓amPre, amAll, ↓reduceIte, reduceCtorEq, Nat.reduceEqDiff, Nat.reduceBEq, Nat.reduceAdd, Nat.reduceLeDiff, Nat.reduceSub, Nat.reduceMul, Int.reduceToNat, List.size_toArray, tyF, MM, bu0, ipure, kpure, tpure, sspure, kset, tset, ksnoc, tsnoc, Kind.av, Twist.sl, Twist.tr, Invar.av, stsize, stget, sttl, stapp, stext, tsspure, Model.sl, Model.tr, vset, vsnoc, vpure, Puzz.sl, Puzz.tr, nilAs_eq]
    simp [letL]
  rintro k st _ ⟨hk, f6, f5, f3, m16⟩
  have hl := letL_len k
  by_cases hlt : k < n
  · simp -dsimp -implicitDefEqProofs (disch := first | omega | (simp only [lenr]; done) | (simp only [lenr]; omega)) only [↓amPre, amAll, ↓reduceIte, reduceCtorEq, Nat.reduceEqDiff, Nat.reduceBEq, Nat.reduceAdd, Nat.reduceLeDiff, Nat.reduceSub, Nat.reduceMul, Int.reduceToNat, List.size_toArray, tyF, MM, bu0, ipure, kpure, tpure, sspure, kset, tset, ksnoc, tsnoc, Kind.av, Twist.sl, Twist.tr, Invar.av, stsize, stget, sttl, stapp, stext, tsspure, Model.sl, Model.tr, vset, vsnoc, vpure, Puzz.sl, Puzz.tr, f6, f5, f3, m16, hl]
    refine ⟨hlt, by omega, by rw [show 2 * k + 2 = 2 * (k + 1) by omega], ?_⟩
    simp [letL]
  · have hk : k = n := by omega
    subst hk
    simp -dsimp -implicitDefEqProofs (disch := first | omega | (simp only [lenr]; done) | (simp only [lenr]; omega)) only [↓amPre, amAll, ↓reduceIte, reduceCtorEq, Nat.reduceEqDiff, Nat.reduceBEq, Nat.reduceAdd, Nat.reduceLeDiff, Nat.reduceSub, Nat.reduceMul, Int.reduceToNat, List.size_toArray, tyF, MM, bu0, ipure, kpure, tpure, sspure, kset, tset, ksnoc, tsnoc, Kind.av, Twist.sl, Twist.tr, Invar.av, stsize, stget, sttl, stapp, stext, tsspure, Model.sl, Model.tr, vset, vsnoc, vpure, Puzz.sl, Puzz.tr, f6, f5, f3, m16, hl]
end Go.AM
set_option maxRecDepth 8000
namespace Go.AM
open Go.Proofs
theorem fzL_ints : ∀ l : List Int, AV.fzL (l.map AV.i64) = l.map AV.i64
  | [] => by simp [AV.fzL]
  | a :: r => by simp [AV.fzL, AV.fz, fzL_ints r]
theorem scr_bd {n : Nat} {x : Int} (hn : 1 ≤ n) (hn8 : n ≤ 8) (h0 : 0 ≤ x) (h1 : x < 2147483647) (k : Nat) : ∀ y ∈ scrW n x k, -9223372036854775807 ≤ y ∧ y ≤ 9223372036854775807 := fun y hy => by
  have := letL_mem.1 (scrW_mem hn h0 h1 k y hy); omega
theorem scramble (p : Puzz) (x : Int) (c : Nat) (hn : 1 ≤ p.mv.length ∧ p.mv.length ≤ 8) (h0 : 0 ≤ x) (h1 : x < 2147483647) (hc : c ≤ 200) : SpecAt Try.prog 120 [p.sl, .i64 x, .i64 c] (itr (scrW p.mv.length x c)) := by
  refine spec_of_awp_any (M := MM) (np := 3) (X := [9]) (fz := false) mixed Try.func120 rfl rfl (by decide) rfl (Nat.le_refl _) (by decide +kernel) (.inl rfl) (by first | trivial | simp only [sigsOk_nil, sigsOk_some, sigsOk_none, sig_tr, sig_pt, sig_mt, sig_agg, List.map_cons, List.map_nil, sig1_tr, sig1_pt, sig1_v, and_self, true_and, List.length_map, List.length_set]) ?_
  simp -dsimp -implicitDefEqProofs (disch := first | omega | (simp only [lenr]; done) | (simp only [lenr]; omega)) only [↓amPre, amAll, ↓reduceIte, reduceCtorEq, Nat.reduceEqDiff, Nat.reduceBEq, Nat.reduceAdd, Nat.reduceLeDiff, Nat.reduceSub, Nat.reduceMul, Int.reduceToNat, List.size_toArray, tyF, MM, bu0, ipure, kpure, tpure, sspure, kset, tset, ksnoc, tsnoc, Kind.av, Twist.sl, Twist.tr, Invar.av, stsize, stget, sttl, stapp, stext, tsspure, Model.sl, Model.tr, vset, vsnoc, vpure, Puzz.sl, Puzz.tr]
  refine awp_loop (fun k st => k ≤ c ∧ st.fr 11 = .i64 k ∧ st.fr 10 = .i64 c ∧ st.fr 1 = .i64 (rndK x k) ∧ st.fr 7 = .loc 7 [] 0 0 ∧ st.fr 3 = .loc 3 [] 0 0 ∧ st.mem 3 = some (.pt 3 p.sl) ∧ ((k = 0 ∧ st.mem 7 = some (.pt 1 .nilsl)) ∨ (0 < k ∧ st.mem 7 = some (.pt 1 (itr (scrW p.mv.length x k)))))) (c) ?_ ?_
  · simp -dsimp -implicitDefEqProofs (disch := first | omega | (simp only [lenr]; done) | (simp only [lenr]; omega)) only [↓amPre, amAll, ↓reduceIte, reduceCtorEq, Nat.reduceEqDiff, Nat.reduceBEq, Nat.reduceAdd, Nat.reduceLeDiff, Nat.reduceSub, Nat.reduceMul, Int.reduceToNat, List.size_toArray, tyF, MM, bu0, ipure, kpure, tpure, sspure, kset, tset, ksnoc, tsnoc, Kind.av, Twist.sl, Twist.tr, Invar.av, stsize, stget, sttl, stapp, stext, tsspure, Model.sl, Model.tr, vset, vsnoc, vpure, Puzz.sl, Puzz.tr]
    exact ⟨by omega, rfl, rfl⟩
  rintro k st _ ⟨hk, f11, f10, f1, f7, f3, m3, ek⟩
  have hl := scrW_len p.mv.length x k
  have hr := rndK_bd h0 h1 k
  have hr1 := rndK_bd h0 h1 (k + 1)
  have hix := scr_ix hn.1 h0 h1 k (scrW p.mv.length x k)
  have hcl := cndL_len (n := p.mv.length) (w := scrW p.mv.length x k) hn.1
  have hst : scrW p.mv.length x (k + 1) = scrW p.mv.length x k ++ [(cndL p.mv.length (scrW p.mv.length x k)).getD ((rndK x (k + 1)).tmod (cndL p.mv.length (scrW p.mv.length x k)).length).toNat 0] := rfl
  have hrs : nextR (rndK x k) = rndK x (k + 1) := rfl
  have hll := letL_len p.mv.length
  by_cases hlt : k < c
  · rcases ek with ⟨rfl, m7⟩ | ⟨hk0, m7⟩
    · have hcl0 : cndL p.mv.length (scrW p.mv.length x 0) = letL p.mv.length := by simp [cndL, scrW]
      rw [hcl0] at hix hcl hst
      rw [hll] at hix hst
      simp only [Nat.zero_add] at hix hst hr1
      simp -dsimp -implicitDefEqProofs (disch := first | omega | (simp only [lenr]; done) | (simp only [lenr]; omega)) only [↓amPre, amAll, ↓reduceIte, reduceCtorEq, Nat.reduceEqDiff, Nat.reduceBEq, Nat.reduceAdd, Nat.reduceLeDiff, Nat.reduceSub, Nat.reduceMul, Int.reduceToNat, List.size_toArray, tyF, MM, bu0, ipure, kpure, tpure, sspure, kset, tset, ksnoc, tsnoc, Kind.av, Twist.sl, Twist.tr, Invar.av, stsize, stget, sttl, stapp, stext, tsspure, Model.sl, Model.tr, vset, vsnoc, vpure, Puzz.sl, Puzz.tr, f11, f10, f1, f7, f3, m3, m7]
      refine callP_of (lettersI _ hn.2) ?_
      simp -dsimp -implicitDefEqProofs (disch := first | omega | (simp only [lenr]; done) | (simp only [lenr]; omega)) only [↓amPre, amAll, ↓reduceIte, reduceCtorEq, Nat.reduceEqDiff, Nat.reduceBEq, Nat.reduceAdd, Nat.reduceLeDiff, Nat.reduceSub, Nat.reduceMul, Int.reduceToNat, List.size_toArray, tyF, MM, bu0, ipure, kpure, tpure, sspure, kset, tset, ksnoc, tsnoc, Kind.av, Twist.sl, Twist.tr, Invar.av, stsize, stget, sttl, stapp, stext, tsspure, Model.sl, Model.tr, vset, vsnoc, vpure, Puzz.sl, Puzz.tr, f11, f10, f1, f7, f3, m3, m7, hll]
      refine callP_of (iNext _ (by unfold intOk; omega)) ?_
      simp -dsimp -implicitDefEqProofs (disch := first | omega | (simp only [lenr]; done) | (simp only [lenr]; omega)) only [↓amPre, amAll, ↓reduceIte, reduceCtorEq, Nat.reduceEqDiff, Nat.reduceBEq, Nat.reduceAdd, Nat.reduceLeDiff, Nat.reduceSub, Nat.reduceMul, Int.reduceToNat, List.size_toArray, tyF, MM, bu0, ipure, kpure, tpure, sspure, kset, tset, ksnoc, tsnoc, Kind.av, Twist.sl, Twist.tr, Invar.av, stsize, stget, sttl, stapp, stext, tsspure, Model.sl, Model.tr, vset, vsnoc, vpure, Puzz.sl, Puzz.tr, f11, f10, f1, f7, f3, m3, m7, hll, hrs]
      refine split_go 9 (by decide +kernel) ?_
      simp -dsimp -implicitDefEqProofs (disch := first | omega | (simp only [lenr]; done) | (simp only [lenr]; omega)) only [↓amPre, amAll, ↓reduceIte, reduceCtorEq, Nat.reduceEqDiff, Nat.reduceBEq, Nat.reduceAdd, Nat.reduceLeDiff, Nat.reduceSub, Nat.reduceMul, Int.reduceToNat, List.size_toArray, tyF, MM, bu0, ipure, kpure, tpure, sspure, kset, tset, ksnoc, tsnoc, Kind.av, Twist.sl, Twist.tr, Invar.av, stsize, stget, sttl, stapp, stext, tsspure, Model.sl, Model.tr, vset, vsnoc, vpure, Puzz.sl, Puzz.tr, f11, f10, f1, f7, f3, m3, m7, hll, hrs]
      refine callP_of (lenI (letL p.mv.length)) ?_
      generalize hC : letL p.mv.length = C at hix hcl hst hll ⊢
      simp -dsimp -implicitDefEqProofs (disch := first | omega | (simp only [lenr]; done) | (simp only [lenr]; omega)) only [↓amPre, amAll, ↓reduceIte, reduceCtorEq, Nat.reduceEqDiff, Nat.reduceBEq, Nat.reduceAdd, Nat.reduceLeDiff, Nat.reduceSub, Nat.reduceMul, Int.reduceToNat, List.size_toArray, tyF, MM, bu0, ipure, kpure, tpure, sspure, kset, tset, ksnoc, tsnoc, Kind.av, Twist.sl, Twist.tr, Invar.av, stsize, stget, sttl, stapp, stext, tsspure, Model.sl, Model.tr, vset, vsnoc, vpure, Puzz.sl, Puzz.tr, f11, f10, f1, f7, f3, m3, m7, hll, hrs]
      refine ⟨by omega, by omega, by omega, ?_⟩
      rw [hst]; simp [scrW]
    · have hk0' : (0 : Int) < k := by omega
      by_cases c1 : p.mv.length = 1
      · have b1 : decide (1 < (p.mv.length : Int)) = false := by simp; omega
        have hcl0 : cndL p.mv.length (scrW p.mv.length x k) = letL p.mv.length := by simp [cndL, c1]
        rw [hcl0] at hix hcl hst
        rw [hll] at hix hst
        simp -dsimp -implicitDefEqProofs (disch := first | omega | (simp only [lenr]; done) | (simp only [lenr]; omega)) only [↓amPre, amAll, ↓reduceIte, reduceCtorEq, Nat.reduceEqDiff, Nat.reduceBEq, Nat.reduceAdd, Nat.reduceLeDiff, Nat.reduceSub, Nat.reduceMul, Int.reduceToNat, List.size_toArray, tyF, MM, bu0, ipure, kpure, tpure, sspure, kset, tset, ksnoc, tsnoc, Kind.av, Twist.sl, Twist.tr, Invar.av, stsize, stget, sttl, stapp, stext, tsspure, Model.sl, Model.tr, vset, vsnoc, vpure, Puzz.sl, Puzz.tr, f11, f10, f1, f7, f3, m3, m7]
        refine callP_of (lettersI _ hn.2) ?_
        simp -dsimp -implicitDefEqProofs (disch := first | omega | (simp only [lenr]; done) | (simp only [lenr]; omega)) only [↓amPre, amAll, ↓reduceIte, reduceCtorEq, Nat.reduceEqDiff, Nat.reduceBEq, Nat.reduceAdd, Nat.reduceLeDiff, Nat.reduceSub, Nat.reduceMul, Int.reduceToNat, List.size_toArray, tyF, MM, bu0, ipure, kpure, tpure, sspure, kset, tset, ksnoc, tsnoc, Kind.av, Twist.sl, Twist.tr, Invar.av, stsize, stget, sttl, stapp, stext, tsspure, Model.sl, Model.tr, vset, vsnoc, vpure, Puzz.sl, Puzz.tr, f11, f10, f1, f7, f3, m3, m7, hll, lt_true hk0', b1]
        refine callP_of (iNext _ (by unfold intOk; omega)) ?_
        simp -dsimp -implicitDefEqProofs (disch := first | omega | (simp only [lenr]; done) | (simp only [lenr]; omega)) only [↓amPre, amAll, ↓reduceIte, reduceCtorEq, Nat.reduceEqDiff, Nat.reduceBEq, Nat.reduceAdd, Nat.reduceLeDiff, Nat.reduceSub, Nat.reduceMul, Int.reduceToNat, List.size_toArray, tyF, MM, bu0, ipure, kpure, tpure, sspure, kset, tset, ksnoc, tsnoc, Kind.av, Twist.sl, Twist.tr, Invar.av, stsize, stget, sttl, stapp, stext, tsspure, Model.sl, Model.tr, vset, vsnoc, vpure, Puzz.sl, Puzz.tr, f11, f10, f1, f7, f3, m3, m7, hll, hrs]
        refine split_go 9 (by decide +kernel) ?_
        simp -dsimp -implicitDefEqProofs (disch := first | omega | (simp only [lenr]; done) | (simp only [lenr]; omega)) only [↓amPre, amAll, ↓reduceIte, reduceCtorEq, Nat.reduceEqDiff, Nat.reduceBEq, Nat.reduceAdd, Nat.reduceLeDiff, Nat.reduceSub, Nat.reduceMul, Int.reduceToNat, List.size_toArray, tyF, MM, bu0, ipure, kpure, tpure, sspure, kset, tset, ksnoc, tsnoc, Kind.av, Twist.sl, Twist.tr, Invar.av, stsize, stget, sttl, stapp, stext, tsspure, Model.sl, Model.tr, vset, vsnoc, vpure, Puzz.sl, Puzz.tr, f11, f10, f1, f7, f3, m3, m7, hll, hrs]
        refine callP_of (lenI (letL p.mv.length)) ?_
        generalize hC : letL p.mv.length = C at hix hcl hst hll ⊢
        simp -dsimp -implicitDefEqProofs (disch := first | omega | (simp only [lenr]; done) | (simp only [lenr]; omega)) only [↓amPre, amAll, ↓reduceIte, reduceCtorEq, Nat.reduceEqDiff, Nat.reduceBEq, Nat.reduceAdd, Nat.reduceLeDiff, Nat.reduceSub, Nat.reduceMul, Int.reduceToNat, List.size_toArray, tyF, MM, bu0, ipure, kpure, tpure, sspure, kset, tset, ksnoc, tsnoc, Kind.av, Twist.sl, Twist.tr, Invar.av, stsize, stget, sttl, stapp, stext, tsspure, Model.sl, Model.tr, vset, vsnoc, vpure, Puzz.sl, Puzz.tr, f11, f10, f1, f7, f3, m3, m7, hll, hrs, hl]
        refine ⟨by omega, by omega, by omega, ?_⟩
        rw [hst]
      · have b1 : decide (1 < (p.mv.length : Int)) = true := by simp; omega
        have hwn : scrW p.mv.length x k ≠ [] := by intro e; rw [e] at hl; simp at hl; omega
        have hdf := deleteFunc (letL p.mv.length) (scrW p.mv.length x k) k (by rw [hll]; omega) (by rw [hll]; omega) (by omega) (by omega) (by omega) (scr_bd hn.1 hn.2 h0 h1 k)
        rw [show (scrW p.mv.length x k).getD ((k : Int).toNat - 1) 0 = lastW (scrW p.mv.length x k) by unfold lastW; rw [hl]; simp, show (letL p.mv.length).filter (fun y => !decide (sameI y (lastW (scrW p.mv.length x k)))) = cndL p.mv.length (scrW p.mv.length x k) from (if_pos ⟨hwn, by omega⟩).symm] at hdf
        generalize hC : cndL p.mv.length (scrW p.mv.length x k) = C at hix hcl hst hdf
        simp -dsimp -implicitDefEqProofs (disch := first | omega | (simp only [lenr]; done) | (simp only [lenr]; omega)) only [↓amPre, amAll, ↓reduceIte, reduceCtorEq, Nat.reduceEqDiff, Nat.reduceBEq, Nat.reduceAdd, Nat.reduceLeDiff, Nat.reduceSub, Nat.reduceMul, Int.reduceToNat, List.size_toArray, tyF, MM, bu0, ipure, kpure, tpure, sspure, kset, tset, ksnoc, tsnoc, Kind.av, Twist.sl, Twist.tr, Invar.av, stsize, stget, sttl, stapp, stext, tsspure, Model.sl, Model.tr, vset, vsnoc, vpure, Puzz.sl, Puzz.tr, f11, f10, f1, f7, f3, m3, m7]
        refine callP_of (lettersI _ hn.2) ?_
        simp -dsimp -implicitDefEqProofs (disch := first | omega | (simp only [lenr]; done) | (simp only [lenr]; omega)) only [↓amPre, amAll, ↓reduceIte, reduceCtorEq, Nat.reduceEqDiff, Nat.reduceBEq, Nat.reduceAdd, Nat.reduceLeDiff, Nat.reduceSub, Nat.reduceMul, Int.reduceToNat, List.size_toArray, tyF, MM, bu0, ipure, kpure, tpure, sspure, kset, tset, ksnoc, tsnoc, Kind.av, Twist.sl, Twist.tr, Invar.av, stsize, stget, sttl, stapp, stext, tsspure, Model.sl, Model.tr, vset, vsnoc, vpure, Puzz.sl, Puzz.tr, f11, f10, f1, f7, f3, m3, m7, hll, lt_true hk0', b1, fzL_ints]
        refine callX_of (hdf) ?_
        simp -dsimp -implicitDefEqProofs (disch := first | omega | (simp only [lenr]; done) | (simp only [lenr]; omega)) only [↓amPre, amAll, ↓reduceIte, reduceCtorEq, Nat.reduceEqDiff, Nat.reduceBEq, Nat.reduceAdd, Nat.reduceLeDiff, Nat.reduceSub, Nat.reduceMul, Int.reduceToNat, List.size_toArray, tyF, MM, bu0, ipure, kpure, tpure, sspure, kset, tset, ksnoc, tsnoc, Kind.av, Twist.sl, Twist.tr, Invar.av, stsize, stget, sttl, stapp, stext, tsspure, Model.sl, Model.tr, vset, vsnoc, vpure, Puzz.sl, Puzz.tr, f11, f10, f1, f7, f3, m3, m7, hll]
        refine callP_of (iNext _ (by unfold intOk; omega)) ?_
        simp -dsimp -implicitDefEqProofs (disch := first | omega | (simp only [lenr]; done) | (simp only [lenr]; omega)) only [↓amPre, amAll, ↓reduceIte, reduceCtorEq, Nat.reduceEqDiff, Nat.reduceBEq, Nat.reduceAdd, Nat.reduceLeDiff, Nat.reduceSub, Nat.reduceMul, Int.reduceToNat, List.size_toArray, tyF, MM, bu0, ipure, kpure, tpure, sspure, kset, tset, ksnoc, tsnoc, Kind.av, Twist.sl, Twist.tr, Invar.av, stsize, stget, sttl, stapp, stext, tsspure, Model.sl, Model.tr, vset, vsnoc, vpure, Puzz.sl, Puzz.tr, f11, f10, f1, f7, f3, m3, m7, hll, hrs]
        refine split_go 9 (by decide +kernel) ?_
        simp -dsimp -implicitDefEqProofs (disch := first | omega | (simp only [lenr]; done) | (simp only [lenr]; omega)) only [↓amPre, amAll, ↓reduceIte, reduceCtorEq, Nat.reduceEqDiff, Nat.reduceBEq, Nat.reduceAdd, Nat.reduceLeDiff, Nat.reduceSub, Nat.reduceMul, Int.reduceToNat, List.size_toArray, tyF, MM, bu0, ipure, kpure, tpure, sspure, kset, tset, ksnoc, tsnoc, Kind.av, Twist.sl, Twist.tr, Invar.av, stsize, stget, sttl, stapp, stext, tsspure, Model.sl, Model.tr, vset, vsnoc, vpure, Puzz.sl, Puzz.tr, f11, f10, f1, f7, f3, m3, m7, hll, hrs]
        refine callP_of (lenI C) ?_
        simp -dsimp -implicitDefEqProofs (disch := first | omega | (simp only [lenr]; done) | (simp only [lenr]; omega)) only [↓amPre, amAll, ↓reduceIte, reduceCtorEq, Nat.reduceEqDiff, Nat.reduceBEq, Nat.reduceAdd, Nat.reduceLeDiff, Nat.reduceSub, Nat.reduceMul, Int.reduceToNat, List.size_toArray, tyF, MM, bu0, ipure, kpure, tpure, sspure, kset, tset, ksnoc, tsnoc, Kind.av, Twist.sl, Twist.tr, Invar.av, stsize, stget, sttl, stapp, stext, tsspure, Model.sl, Model.tr, vset, vsnoc, vpure, Puzz.sl, Puzz.tr, f11, f10, f1, f7, f3, m3, m7, hll, hrs, hl]
        refine ⟨by omega, by omega, by omega, ?_⟩
        rw [hst]
  · have hk : k = c := by omega
    subst hk
    rcases ek with ⟨rfl, m7⟩ | ⟨hk0, m7⟩
    · simp -dsimp -implicitDefEqProofs (disch := first | omega | (simp only [lenr]; done) | (simp only [lenr]; omega)) only [↓amPre, amAll, ↓reduceIte, reduceCtorEq, Nat.reduceEqDiff, Nat.reduceBEq, Nat.reduceAdd, Nat.reduceLeDiff, Nat.reduceSub, Nat.reduceMul, Int.reduceToNat, List.size_toArray, tyF, MM, bu0, ipure, kpure, tpure, sspure, kset, tset, ksnoc, tsnoc, Kind.av, Twist.sl, Twist.tr, Invar.av, stsize, stget, sttl, stapp, stext, tsspure, Model.sl, Model.tr, vset, vsnoc, vpure, Puzz.sl, Puzz.tr, f11, f10, f1, f7, f3, m3, m7]
      simp [scrW]
    · simp -dsimp -implicitDefEqProofs (disch := first | omega | (simp only [lenr]; done) | (simp only [lenr]; omega)) only [↓amPre, amAll, ↓reduceIte, reduceCtorEq, Nat.reduceEqDiff, Nat.reduceBEq, Nat.reduceAdd, Nat.reduceLeDiff, Nat.reduceSub, Nat.reduceMul, Int.reduceToNat, List.size_toArray, tyF, MM, bu0, ipure, kpure, tpure, sspure, kset, tset, ksnoc, tsnoc, Kind.av, Twist.sl, Twist.tr, Invar.av, stsize, stget, sttl, stapp, stext, tsspure, Model.sl, Model.tr, vset, vsnoc, vpure, Puzz.sl, Puzz.tr, f11, f10, f1, f7, f3, m3, m7]
end Go.AM
set_option maxRecDepth 8000
namespace Go.AM
namespace Draws
open Go.Proofs
theorem andM (a m : Int) (h0 : 0 ≤ m) (h1 : m ≤ 9223372036854775807) : 0 ≤ bitsI .and .i64 a m ∧ bitsI .and .i64 a m ≤ m := by
  have e2 : (BitVec.ofInt 64 m).toNat = m.toNat := by rw [BitVec.toNat_ofInt]; omega
  have h : (BitVec.ofInt 64 a &&& BitVec.ofInt 64 m).toNat ≤ m.toNat := by
    rw [BitVec.toNat_and, e2]
    exact Nat.and_le_right
  have e : bitsI .and .i64 a m = ((BitVec.ofInt 64 a &&& BitVec.ofInt 64 m).toNat : Int) := by
    show IntKind.i64.wrap ((BitVec.ofInt 64 a &&& BitVec.ofInt 64 m).toNat : Int) = _
    apply wrap64_id; omega
  rw [e]; omega
def sdK (l : List UInt8) : Nat → Int
  | 0 => 590033 + l.length
  | k + 1 => bitsI .and .i64 (sdK l k * 337 + (l.getD k default).toNat + 11) 1073741823
theorem sdK_ok (l : List UInt8) (h : l.length ≤ 4096) : ∀ k, 0 ≤ sdK l k ∧ sdK l k ≤ 1073741823
  | 0 => by simp only [sdK]; omega
  | k + 1 => andM _ _ (by omega) (by omega)
theorem newSource (l : List UInt8) (h : l.length ≤ 4096) : SpecAt Try.prog 78 [bsl l] (Src.pt ⟨l, 0, sdK l l.length⟩) := by
  refine spec_of_awp (M := MM) (np := 1) (fz := false) mixed Try.func78 rfl rfl (by decide) rfl (Nat.le_refl _) (by decide +kernel) (.inl rfl) (by first | trivial | simp only [sigsOk_nil, sigsOk_some, sigsOk_none, sig_tr, sig_pt, sig_mt, sig_agg, List.map_cons, List.map_nil, sig1_tr, sig1_pt, sig1_v, and_self, true_and, List.length_map, List.length_set]) ?_
  simp -dsimp -implicitDefEqProofs (disch := first | omega | (simp only [lenr]; done) | (simp only [lenr]; omega)) only [↓amPre, amAll, ↓reduceIte, reduceCtorEq, Nat.reduceEqDiff, Nat.reduceBEq, Nat.reduceAdd, Nat.reduceLeDiff, Nat.reduceSub, Nat.reduceMul, Int.reduceToNat, List.size_toArray, tyF, MM, bu0, ipure, kpure, tpure, sspure, kset, tset, ksnoc, tsnoc, Kind.av, Twist.sl, Twist.tr, Invar.av]
  refine awp_loop (fun k st => k ≤ l.length ∧ st.fr 4 = .i64 k ∧ st.fr 3 = .i64 (sdK l k) ∧ st.fr 0 = bsl l) (l.length) ?_ ?_
  · simp -dsimp -implicitDefEqProofs (disch := first | omega | (simp only [lenr]; done) | (simp only [lenr]; omega)) only [↓amPre, amAll, ↓reduceIte, reduceCtorEq, Nat.reduceEqDiff, Nat.reduceBEq, Nat.reduceAdd, Nat.reduceLeDiff, Nat.reduceSub, Nat.reduceMul, Int.reduceToNat, List.size_toArray, tyF, MM, bu0, ipure, kpure, tpure, sspure, kset, tset, ksnoc, tsnoc, Kind.av, Twist.sl, Twist.tr, Invar.av]
    simp [sdK]
  rintro k st _ ⟨hk, f4, f3, f0⟩
  have hs := sdK_ok l h k
  have hs1 : sdK l (k + 1) = bitsI .and .i64 (sdK l k * 337 + (l.getD k default).toNat + 11) 1073741823 := rfl
  by_cases hlt : k < l.length
  · have hu : (l.getD k default).toNat < 256 := (l.getD k default).toNat_lt
    have e0 : IntKind.i64.wrap ((l.getD k default).toNat : Int) = (l.getD k default).toNat := wrap64_id (by omega)
    have e1 : IntKind.i64.wrap (sdK l k * 337) = sdK l k * 337 := wrap64_id (by omega)
    have e2 : IntKind.i64.wrap (sdK l k * 337 + (l.getD k default).toNat) = sdK l k * 337 + (l.getD k default).toNat := wrap64_id (by omega)
    have e3 : IntKind.i64.wrap (sdK l k * 337 + (l.getD k default).toNat + 11) = sdK l k * 337 + (l.getD k default).toNat + 11 := wrap64_id (by omega)
    simp -dsimp -implicitDefEqProofs (disch := first | omega | (simp only [lenr]; done) | (simp only [lenr]; omega)) only [↓amPre, amAll, ↓reduceIte, reduceCtorEq, Nat.reduceEqDiff, Nat.reduceBEq, Nat.reduceAdd, Nat.reduceLeDiff, Nat.reduceSub, Nat.reduceMul, Int.reduceToNat, List.size_toArray, tyF, MM, bu0, ipure, kpure, tpure, sspure, kset, tset, ksnoc, tsnoc, Kind.av, Twist.sl, Twist.tr, Invar.av, f4, f3, f0, e0, e1, e2, e3, ← hs1]
    repeat' (first | omega | rfl | exact i64c (by omega) | exact vic (by omega) | apply And.intro)
  · have hke : k = l.length := by omega
    subst hke
    simp -dsimp -implicitDefEqProofs (disch := first | omega | (simp only [lenr]; done) | (simp only [lenr]; omega)) only [↓amPre, amAll, ↓reduceIte, reduceCtorEq, Nat.reduceEqDiff, Nat.reduceBEq, Nat.reduceAdd, Nat.reduceLeDiff, Nat.reduceSub, Nat.reduceMul, Int.reduceToNat, List.size_toArray, tyF, MM, bu0, ipure, kpure, tpure, sspure, kset, tset, ksnoc, tsnoc, Kind.av, Twist.sl, Twist.tr, Invar.av, f4, f3, f0]
    rfl
theorem numberUpTo (s : Src) (n : Int) (h : s.ok) (h0 : 0 ≤ n) (h1 : n ≤ 1000) : ∃ (s' : Src) (x : Int), SpecX Try.prog 186 [s.pt, .i64 n] [some s'.pt] (.i64 x) ∧ s'.ok ∧ intOk x := by
  obtain ⟨s1, c1, q1, k1⟩ := oneIn s 10 h (by unfold intOk; omega)
  cases c1 with
  | true =>
    obtain ⟨s2, x2, q2, k2, b2⟩ := extremeInt s1 k1
    obtain ⟨s3, x3, q3, k3, b3, b4, _⟩ := below s2 4 k2 (by unfold intOk; omega)
    have b4 := b4 (by omega)
    obtain ⟨m, hm⟩ : ∃ m : Nat, x3 = m := ⟨_, (Int.toNat_of_nonneg b3).symm⟩
    have hm4 : m < 4 := by omega
    subst hm
    have hin : intOk (([-1, n, n + 1, x2] : List Int).getD m 0) := by
      match m, hm4 with
      | 0, _ => show intOk (-1); unfold intOk; omega
      | 1, _ => show intOk n; unfold intOk; omega
      | 2, _ => show intOk (n + 1); unfold intOk; omega
      | 3, _ => exact b2
    refine ⟨s3, ([-1, n, n + 1, x2] : List Int).getD m 0, ?_, k3, hin⟩
    have hg : ([.i64 (-1), .i64 n, .i64 (n + 1), .i64 x2] : List AV).getD m .any = .i64 (([-1, n, n + 1, x2] : List Int).getD m 0) := by
      match m, hm4 with
      | 0, _ => rfl
      | 1, _ => rfl
      | 2, _ => rfl
      | 3, _ => rfl
    generalize ([-1, n, n + 1, x2] : List Int).getD m 0 = y at hg ⊢
    refine spec_of_awp (M := MM) (np := 2) (fz := false) mixed Try.func186 rfl rfl (by decide) rfl (Nat.le_refl _) (by decide +kernel) (.inl rfl) (by simp only [sigsOk_some, sigsOk_nil, and_true]; rfl) ?_
    simp -dsimp -implicitDefEqProofs (disch := first | omega | (simp only [lenr]; done) | (simp only [lenr]; omega)) only [↓amPre, amAll, ↓reduceIte, reduceCtorEq, Nat.reduceEqDiff, Nat.reduceBEq, Nat.reduceAdd, Nat.reduceLeDiff, Nat.reduceSub, Nat.reduceMul, Int.reduceToNat, List.size_toArray, tyF, MM, bu0, ipure, kpure, tpure, sspure, kset, tset, ksnoc, tsnoc, Kind.av, Twist.sl, Twist.tr, Invar.av]
    refine callX_of (q1) ?_
    simp -dsimp -implicitDefEqProofs (disch := first | omega | (simp only [lenr]; done) | (simp only [lenr]; omega)) only [↓amPre, amAll, ↓reduceIte, reduceCtorEq, Nat.reduceEqDiff, Nat.reduceBEq, Nat.reduceAdd, Nat.reduceLeDiff, Nat.reduceSub, Nat.reduceMul, Int.reduceToNat, List.size_toArray, tyF, MM, bu0, ipure, kpure, tpure, sspure, kset, tset, ksnoc, tsnoc, Kind.av, Twist.sl, Twist.tr, Invar.av]
    refine callX_of (q2) ?_
    simp -dsimp -implicitDefEqProofs (disch := first | omega | (simp only [lenr]; done) | (simp only [lenr]; omega)) only [↓amPre, amAll, ↓reduceIte, reduceCtorEq, Nat.reduceEqDiff, Nat.reduceBEq, Nat.reduceAdd, Nat.reduceLeDiff, Nat.reduceSub, Nat.reduceMul, Int.reduceToNat, List.size_toArray, tyF, MM, bu0, ipure, kpure, tpure, sspure, kset, tset, ksnoc, tsnoc, Kind.av, Twist.sl, Twist.tr, Invar.av]
    refine callX_of (q3) ?_
    simp -dsimp -implicitDefEqProofs (disch := first | omega | (simp only [lenr]; done) | (simp only [lenr]; omega)) only [↓amPre, amAll, ↓reduceIte, reduceCtorEq, Nat.reduceEqDiff, Nat.reduceBEq, Nat.reduceAdd, Nat.reduceLeDiff, Nat.reduceSub, Nat.reduceMul, Int.reduceToNat, List.size_toArray, tyF, MM, bu0, ipure, kpure, tpure, sspure, kset, tset, ksnoc, tsnoc, Kind.av, Twist.sl, Twist.tr, Invar.av, hg]
  | false =>
    obtain ⟨s2, c2, q2, k2⟩ := oneIn s1 2 k1 (by unfold intOk; omega)
    cases c2 with
    | true =>
      have hm : 1 ≤ (if (4:Int) < n then 4 else n) + 1 ∧ (if (4:Int) < n then 4 else n) + 1 ≤ 5 := by split <;> omega
      obtain ⟨s3, x3, q3, k3, b3, b4, _⟩ := below s2 ((if (4:Int) < n then 4 else n) + 1) k2 (by unfold intOk; omega)
      have b4 := b4 (by omega)
      refine ⟨s3, x3, ?_, k3, by unfold intOk; omega⟩
      generalize hM : (if (4:Int) < n then 4 else n) = M at q3 hm
      refine spec_of_awp (M := MM) (np := 2) (fz := false) mixed Try.func186 rfl rfl (by decide) rfl (Nat.le_refl _) (by decide +kernel) (.inl rfl) (by simp only [sigsOk_some, sigsOk_nil, and_true]; rfl) ?_
      simp -dsimp -implicitDefEqProofs (disch := first | omega | (simp only [lenr]; done) | (simp only [lenr]; omega)) only [↓amPre, amAll, ↓reduceIte, reduceCtorEq, Nat.reduceEqDiff, Nat.reduceBEq, Nat.reduceAdd, Nat.reduceLeDiff, Nat.reduceSub, Nat.reduceMul, Int.reduceToNat, List.size_toArray, tyF, MM, bu0, ipure, kpure, tpure, sspure, kset, tset, ksnoc, tsnoc, Kind.av, Twist.sl, Twist.tr, Invar.av]
      refine callX_of (q1) ?_
      simp -dsimp -implicitDefEqProofs (disch := first | omega | (simp only [lenr]; done) | (simp only [lenr]; omega)) only [↓amPre, amAll, ↓reduceIte, reduceCtorEq, Nat.reduceEqDiff, Nat.reduceBEq, Nat.reduceAdd, Nat.reduceLeDiff, Nat.reduceSub, Nat.reduceMul, Int.reduceToNat, List.size_toArray, tyF, MM, bu0, ipure, kpure, tpure, sspure, kset, tset, ksnoc, tsnoc, Kind.av, Twist.sl, Twist.tr, Invar.av]
      refine callX_of (q2) ?_
      simp -dsimp -implicitDefEqProofs (disch := first | omega | (simp only [lenr]; done) | (simp only [lenr]; omega)) only [↓amPre, amAll, ↓reduceIte, reduceCtorEq, Nat.reduceEqDiff, Nat.reduceBEq, Nat.reduceAdd, Nat.reduceLeDiff, Nat.reduceSub, Nat.reduceMul, Int.reduceToNat, List.size_toArray, tyF, MM, bu0, ipure, kpure, tpure, sspure, kset, tset, ksnoc, tsnoc, Kind.av, Twist.sl, Twist.tr, Invar.av, minmaxP_int, hM]
      refine callX_of (q3) ?_
      simp -dsimp -implicitDefEqProofs (disch := first | omega | (simp only [lenr]; done) | (simp only [lenr]; omega)) only [↓amPre, amAll, ↓reduceIte, reduceCtorEq, Nat.reduceEqDiff, Nat.reduceBEq, Nat.reduceAdd, Nat.reduceLeDiff, Nat.reduceSub, Nat.reduceMul, Int.reduceToNat, List.size_toArray, tyF, MM, bu0, ipure, kpure, tpure, sspure, kset, tset, ksnoc, tsnoc, Kind.av, Twist.sl, Twist.tr, Invar.av]
    | false =>
      obtain ⟨s3, x3, q3, k3, b3, b4, _⟩ := below s2 (n + 1) k2 (by unfold intOk; omega)
      have b4 := b4 (by omega)
      refine ⟨s3, x3, ?_, k3, by unfold intOk; omega⟩
      refine spec_of_awp (M := MM) (np := 2) (fz := false) mixed Try.func186 rfl rfl (by decide) rfl (Nat.le_refl _) (by decide +kernel) (.inl rfl) (by simp only [sigsOk_some, sigsOk_nil, and_true]; rfl) ?_
      simp -dsimp -implicitDefEqProofs (disch := first | omega | (simp only [lenr]; done) | (simp only [lenr]; omega)) only [↓amPre, amAll, ↓reduceIte, reduceCtorEq, Nat.reduceEqDiff, Nat.reduceBEq, Nat.reduceAdd, Nat.reduceLeDiff, Nat.reduceSub, Nat.reduceMul, Int.reduceToNat, List.size_toArray, tyF, MM, bu0, ipure, kpure, tpure, sspure, kset, tset, ksnoc, tsnoc, Kind.av, Twist.sl, Twist.tr, Invar.av]
      refine callX_of (q1) ?_
      simp -dsimp -implicitDefEqProofs (disch := first | omega | (simp only [lenr]; done) | (simp only [lenr]; omega)) only [↓amPre, amAll, ↓reduceIte, reduceCtorEq, Nat.reduceEqDiff, Nat.reduceBEq, Nat.reduceAdd, Nat.reduceLeDiff, Nat.reduceSub, Nat.reduceMul, Int.reduceToNat, List.size_toArray, tyF, MM, bu0, ipure, kpure, tpure, sspure, kset, tset, ksnoc, tsnoc, Kind.av, Twist.sl, Twist.tr, Invar.av]
      refine callX_of (q2) ?_
      simp -dsimp -implicitDefEqProofs (disch := first | omega | (simp only [lenr]; done) | (simp only [lenr]; omega)) only [↓amPre, amAll, ↓reduceIte, reduceCtorEq, Nat.reduceEqDiff, Nat.reduceBEq, Nat.reduceAdd, Nat.reduceLeDiff, Nat.reduceSub, Nat.reduceMul, Int.reduceToNat, List.size_toArray, tyF, MM, bu0, ipure, kpure, tpure, sspure, kset, tset, ksnoc, tsnoc, Kind.av, Twist.sl, Twist.tr, Invar.av]
      refine callX_of (q3) ?_
      simp -dsimp -implicitDefEqProofs (disch := first | omega | (simp only [lenr]; done) | (simp only [lenr]; omega)) only [↓amPre, amAll, ↓reduceIte, reduceCtorEq, Nat.reduceEqDiff, Nat.reduceBEq, Nat.reduceAdd, Nat.reduceLeDiff, Nat.reduceSub, Nat.reduceMul, Int.reduceToNat, List.size_toArray, tyF, MM, bu0, ipure, kpure, tpure, sspure, kset, tset, ksnoc, tsnoc, Kind.av, Twist.sl, Twist.tr, Invar.av]
theorem drawKinds (s : Src) (h : s.ok) : ∃ (s' : Src) (ks : List Kind), SpecX Try.prog 228 [s.pt] [some s'.pt] (ktr ks) ∧ s'.ok ∧ kindsOk ks := by
  obtain ⟨s1, x1, q1, k1, b1, b2, _⟩ := below s 5 h (by unfold intOk; omega)
  have b2 := b2 (by omega)
  obtain ⟨n, hn⟩ : ∃ n : Nat, x1 = n := ⟨_, (Int.toNat_of_nonneg b1).symm⟩
  have hn5 : n < 5 := by omega
  subst hn
  match n, hn5 with
  | 0, _ =>
    refine ⟨s1, [⟨3, 1⟩, ⟨2, 2⟩], ?_, k1, by decide⟩
    refine spec_of_awp (M := MM) (np := 1) (fz := false) mixed Try.func228 rfl rfl (by decide) rfl (Nat.le_refl _) (by decide +kernel) (.inl rfl) (by simp only [sigsOk_some, sigsOk_nil, and_true]; rfl) ?_
    simp -dsimp -implicitDefEqProofs (disch := first | omega | (simp only [lenr]; done) | (simp only [lenr]; omega)) only [↓amPre, amAll, ↓reduceIte, reduceCtorEq, Nat.reduceEqDiff, Nat.reduceBEq, Nat.reduceAdd, Nat.reduceLeDiff, Nat.reduceSub, Nat.reduceMul, Int.reduceToNat, List.size_toArray, tyF, MM, bu0, ipure, kpure, tpure, sspure, kset, tset, ksnoc, tsnoc, Kind.av, Twist.sl, Twist.tr, Invar.av]
    refine callX_of (q1) ?_
    simp -dsimp -implicitDefEqProofs (disch := first | omega | (simp only [lenr]; done) | (simp only [lenr]; omega)) only [↓amPre, amAll, ↓reduceIte, reduceCtorEq, Nat.reduceEqDiff, Nat.reduceBEq, Nat.reduceAdd, Nat.reduceLeDiff, Nat.reduceSub, Nat.reduceMul, Int.reduceToNat, List.size_toArray, tyF, MM, bu0, ipure, kpure, tpure, sspure, kset, tset, ksnoc, tsnoc, Kind.av, Twist.sl, Twist.tr, Invar.av]
  | 1, _ =>
    refine ⟨s1, [⟨2, 3⟩], ?_, k1, by decide⟩
    refine spec_of_awp (M := MM) (np := 1) (fz := false) mixed Try.func228 rfl rfl (by decide) rfl (Nat.le_refl _) (by decide +kernel) (.inl rfl) (by simp only [sigsOk_some, sigsOk_nil, and_true]; rfl) ?_
    simp -dsimp -implicitDefEqProofs (disch := first | omega | (simp only [lenr]; done) | (simp only [lenr]; omega)) only [↓amPre, amAll, ↓reduceIte, reduceCtorEq, Nat.reduceEqDiff, Nat.reduceBEq, Nat.reduceAdd, Nat.reduceLeDiff, Nat.reduceSub, Nat.reduceMul, Int.reduceToNat, List.size_toArray, tyF, MM, bu0, ipure, kpure, tpure, sspure, kset, tset, ksnoc, tsnoc, Kind.av, Twist.sl, Twist.tr, Invar.av]
    refine callX_of (q1) ?_
    simp -dsimp -implicitDefEqProofs (disch := first | omega | (simp only [lenr]; done) | (simp only [lenr]; omega)) only [↓amPre, amAll, ↓reduceIte, reduceCtorEq, Nat.reduceEqDiff, Nat.reduceBEq, Nat.reduceAdd, Nat.reduceLeDiff, Nat.reduceSub, Nat.reduceMul, Int.reduceToNat, List.size_toArray, tyF, MM, bu0, ipure, kpure, tpure, sspure, kset, tset, ksnoc, tsnoc, Kind.av, Twist.sl, Twist.tr, Invar.av]
  | 2, _ =>
    refine ⟨s1, [⟨3, 2⟩], ?_, k1, by decide⟩
    refine spec_of_awp (M := MM) (np := 1) (fz := false) mixed Try.func228 rfl rfl (by decide) rfl (Nat.le_refl _) (by decide +kernel) (.inl rfl) (by simp only [sigsOk_some, sigsOk_nil, and_true]; rfl) ?_
    simp -dsimp -implicitDefEqProofs (disch := first | omega | (simp only [lenr]; done) | (simp only [lenr]; omega)) only [↓amPre, amAll, ↓reduceIte, reduceCtorEq, Nat.reduceEqDiff, Nat.reduceBEq, Nat.reduceAdd, Nat.reduceLeDiff, Nat.reduceSub, Nat.reduceMul, Int.reduceToNat, List.size_toArray, tyF, MM, bu0, ipure, kpure, tpure, sspure, kset, tset, ksnoc, tsnoc, Kind.av, Twist.sl, Twist.tr, Invar.av]
    refine callX_of (q1) ?_
    simp -dsimp -implicitDefEqProofs (disch := first | omega | (simp only [lenr]; done) | (simp only [lenr]; omega)) only [↓amPre, amAll, ↓reduceIte, reduceCtorEq, Nat.reduceEqDiff, Nat.reduceBEq, Nat.reduceAdd, Nat.reduceLeDiff, Nat.reduceSub, Nat.reduceMul, Int.reduceToNat, List.size_toArray, tyF, MM, bu0, ipure, kpure, tpure, sspure, kset, tset, ksnoc, tsnoc, Kind.av, Twist.sl, Twist.tr, Invar.av]
  | 3, _ =>
    refine ⟨s1, [⟨1, 3⟩, ⟨4, 1⟩], ?_, k1, by decide⟩
    refine spec_of_awp (M := MM) (np := 1) (fz := false) mixed Try.func228 rfl rfl (by decide) rfl (Nat.le_refl _) (by decide +kernel) (.inl rfl) (by simp only [sigsOk_some, sigsOk_nil, and_true]; rfl) ?_
    simp -dsimp -implicitDefEqProofs (disch := first | omega | (simp only [lenr]; done) | (simp only [lenr]; omega)) only [↓amPre, amAll, ↓reduceIte, reduceCtorEq, Nat.reduceEqDiff, Nat.reduceBEq, Nat.reduceAdd, Nat.reduceLeDiff, Nat.reduceSub, Nat.reduceMul, Int.reduceToNat, List.size_toArray, tyF, MM, bu0, ipure, kpure, tpure, sspure, kset, tset, ksnoc, tsnoc, Kind.av, Twist.sl, Twist.tr, Invar.av]
    refine callX_of (q1) ?_
    simp -dsimp -implicitDefEqProofs (disch := first | omega | (simp only [lenr]; done) | (simp only [lenr]; omega)) only [↓amPre, amAll, ↓reduceIte, reduceCtorEq, Nat.reduceEqDiff, Nat.reduceBEq, Nat.reduceAdd, Nat.reduceLeDiff, Nat.reduceSub, Nat.reduceMul, Int.reduceToNat, List.size_toArray, tyF, MM, bu0, ipure, kpure, tpure, sspure, kset, tset, ksnoc, tsnoc, Kind.av, Twist.sl, Twist.tr, Invar.av]
  | 4, _ =>
    obtain ⟨s2, x2, q2, k2, c1, c2, _⟩ := below s1 4 k1 (by unfold intOk; omega)
    obtain ⟨s3, x3, q3, k3, d1, d2, _⟩ := below s2 2 k2 (by unfold intOk; omega)
    have c2 := c2 (by omega)
    have d2 := d2 (by omega)
    have hk : kindsOk [(⟨1 + x2, 1 + x3⟩ : Kind)] := by
      refine ⟨by simp, ?_, ?_⟩
      · intro k hk; rw [List.mem_singleton.1 hk]; exact ⟨by simp only; omega, by simp only; omega⟩
      · have : (1 + x2) * (1 + x3) ≤ 4 * 2 := Int.mul_le_mul (by omega) (by omega) (by omega) (by omega)
        simp only [facets]; omega
    refine ⟨s3, [⟨1 + x2, 1 + x3⟩], ?_, k3, hk⟩
    refine spec_of_awp (M := MM) (np := 1) (fz := false) mixed Try.func228 rfl rfl (by decide) rfl (Nat.le_refl _) (by decide +kernel) (.inl rfl) (by simp only [sigsOk_some, sigsOk_nil, and_true]; rfl) ?_
    simp -dsimp -implicitDefEqProofs (disch := first | omega | (simp only [lenr]; done) | (simp only [lenr]; omega)) only [↓amPre, amAll, ↓reduceIte, reduceCtorEq, Nat.reduceEqDiff, Nat.reduceBEq, Nat.reduceAdd, Nat.reduceLeDiff, Nat.reduceSub, Nat.reduceMul, Int.reduceToNat, List.size_toArray, tyF, MM, bu0, ipure, kpure, tpure, sspure, kset, tset, ksnoc, tsnoc, Kind.av, Twist.sl, Twist.tr, Invar.av]
    refine callX_of (q1) ?_
    simp -dsimp -implicitDefEqProofs (disch := first | omega | (simp only [lenr]; done) | (simp only [lenr]; omega)) only [↓amPre, amAll, ↓reduceIte, reduceCtorEq, Nat.reduceEqDiff, Nat.reduceBEq, Nat.reduceAdd, Nat.reduceLeDiff, Nat.reduceSub, Nat.reduceMul, Int.reduceToNat, List.size_toArray, tyF, MM, bu0, ipure, kpure, tpure, sspure, kset, tset, ksnoc, tsnoc, Kind.av, Twist.sl, Twist.tr, Invar.av]
    refine callX_of (q2) ?_
    simp -dsimp -implicitDefEqProofs (disch := first | omega | (simp only [lenr]; done) | (simp only [lenr]; omega)) only [↓amPre, amAll, ↓reduceIte, reduceCtorEq, Nat.reduceEqDiff, Nat.reduceBEq, Nat.reduceAdd, Nat.reduceLeDiff, Nat.reduceSub, Nat.reduceMul, Int.reduceToNat, List.size_toArray, tyF, MM, bu0, ipure, kpure, tpure, sspure, kset, tset, ksnoc, tsnoc, Kind.av, Twist.sl, Twist.tr, Invar.av]
    refine callX_of (q3) ?_
    simp -dsimp -implicitDefEqProofs (disch := first | omega | (simp only [lenr]; done) | (simp only [lenr]; omega)) only [↓amPre, amAll, ↓reduceIte, reduceCtorEq, Nat.reduceEqDiff, Nat.reduceBEq, Nat.reduceAdd, Nat.reduceLeDiff, Nat.reduceSub, Nat.reduceMul, Int.reduceToNat, List.size_toArray, tyF, MM, bu0, ipure, kpure, tpure, sspure, kset, tset, ksnoc, tsnoc, Kind.av, Twist.sl, Twist.tr, Invar.av]
end Draws
end Go.AM
set_option maxRecDepth 8000
namespace Go.AM
namespace Draws
open Go.Proofs
noncomputable def bS (s : Src) (n : Int) : Src := open Classical in if h : s.ok ∧ intOk n then (below s n h.1 h.2).choose else s
noncomputable def bX (s : Src) (n : Int) : Int := open Classical in if h : s.ok ∧ intOk n then (below s n h.1 h.2).choose_spec.choose else 0
theorem belowF (s : Src) (n : Int) (h : s.ok) (hn : intOk n) : SpecX Try.prog 184 [s.pt, .i64 n] [some (bS s n).pt] (.i64 (bX s n)) ∧ (bS s n).ok ∧ 0 ≤ bX s n ∧ (0 < n → bX s n < n) ∧ (n ≤ 0 → bX s n = 0) := by
  have := (below s n h hn).choose_spec.choose_spec
  unfold bS bX
  rw [dif_pos ⟨h, hn⟩, dif_pos ⟨h, hn⟩]
  exact this
theorem ints_bears : ∀ L : List Int, AV.bearsL (L.map AV.i64) = false
  | [] => rfl
  | _ :: r => by rw [List.map_cons, AV.bearsL, ints_bears r]; rfl
theorem grabL_ints (s : Nat) (p : Path) : ∀ (L : List Int) (i : Nat) (st : St) (K : List AV → St → Prop), grabL s p i (L.map AV.i64) st K = K (L.map AV.i64) st
  | [], _, _, _ => rfl
  | a :: r, i, st, K => by
    have hb : AV.bears (AV.v (.int .i64 a)) = false := rfl
    rw [List.map_cons, grabL_cons, grabE_v, grabC_v, hb]
    refine (propext ⟨fun h => ?_, fun h => ?_⟩ : _ = _)
    · have h2 := h.2
      rw [grabL_ints s p r (i + 1) st] at h2
      exact h2
    · refine ⟨rfl, ?_⟩
      rw [grabL_ints s p r (i + 1) st]
      exact h
noncomputable def ordK (s : Src) : Nat → Src × List Int
  | 0 => (s, [])
  | k + 1 => (bS (ordK s k).1 (k + 1), (ordK s k).2.take (bX (ordK s k).1 (k + 1)).toNat ++ [(k : Int)] ++ (ordK s k).2.drop (bX (ordK s k).1 (k + 1)).toNat)
theorem ordK_ok (s : Src) (h : s.ok) : ∀ k, k ≤ 100 → (ordK s k).1.ok ∧ (ordK s k).2.length = k
  | 0, _ => ⟨h, rfl⟩
  | k + 1, hk => by
    have ih := ordK_ok s h k (by omega)
    have hb := belowF (ordK s k).1 (k + 1) ih.1 (by unfold intOk; omega)
    refine ⟨hb.2.1, ?_⟩
    have h3 := hb.2.2.2.1 (by omega)
    simp only [ordK, List.length_append, List.length_take, List.length_drop, List.length_singleton, ih.2]
    omega
theorem drawOrder (s : Src) (n : Nat) (h : s.ok) (hn : n ≤ 20) : SpecX Try.prog 221 [s.pt, .i64 n] [some (ordK s n).1.pt] (itr (ordK s n).2) := by
  refine spec_of_awp (M := MM) (np := 2) (fz := false) mixed Try.func221 rfl rfl (by decide) rfl (Nat.le_refl _) (by decide +kernel) (.inl rfl) (by simp only [sigsOk_some, sigsOk_nil, and_true]; rfl) ?_
  simp -dsimp -implicitDefEqProofs (disch := first | omega | (simp only [lenr]; done) | (simp only [lenr]; omega)) only [↓amPre, amAll, ↓reduceIte, reduceCtorEq, Nat.reduceEqDiff, Nat.reduceBEq, Nat.reduceAdd, Nat.reduceLeDiff, Nat.reduceSub, Nat.reduceMul, Int.reduceToNat, List.size_toArray, tyF, MM, bu0, ipure, kpure, tpure, sspure, kset, tset, ksnoc, tsnoc, Kind.av, Twist.sl, Twist.tr, Invar.av]
  refine awp_loopR 9 32 (.tr 1 []) (by simp -dsimp -implicitDefEqProofs (disch := first | omega | (simp only [lenr]; done) | (simp only [lenr]; omega)) only [↓amPre, amAll, ↓reduceIte, reduceCtorEq, Nat.reduceEqDiff, Nat.reduceBEq, Nat.reduceAdd, Nat.reduceLeDiff, Nat.reduceSub, Nat.reduceMul, Int.reduceToNat, List.size_toArray, tyF, MM, bu0, ipure, kpure, tpure, sspure, kset, tset, ksnoc, tsnoc, Kind.av, Twist.sl, Twist.tr, Invar.av]) (by decide) (by decide) (by decide) (fun k st => k ≤ n ∧ st.fr 6 = .i64 k ∧ st.fr 1 = .i64 n ∧ st.fr 5 = .ref 32 [] 1 0 k ∧ st.fr 0 = .loc 0 [] 0 0 ∧ st.mem 32 = some (itr (ordK s k).2) ∧ st.mem 0 = some ((ordK s k).1.pt)) (n) ?_ ?_
  · simp -dsimp -implicitDefEqProofs (disch := first | omega | (simp only [lenr]; done) | (simp only [lenr]; omega)) only [↓amPre, amAll, ↓reduceIte, reduceCtorEq, Nat.reduceEqDiff, Nat.reduceBEq, Nat.reduceAdd, Nat.reduceLeDiff, Nat.reduceSub, Nat.reduceMul, Int.reduceToNat, List.size_toArray, tyF, MM, bu0, ipure, kpure, tpure, sspure, kset, tset, ksnoc, tsnoc, Kind.av, Twist.sl, Twist.tr, Invar.av, ren_eq]
    simp [ordK]
  rintro k st _ ⟨hk, f6, f1, f5, f0, m32, m0⟩
  have ho := ordK_ok s h k (by omega)
  by_cases hlt : k < n
  · obtain ⟨q1, q2, q3, q4, _⟩ := belowF (ordK s k).1 (k + 1) ho.1 (by unfold intOk; omega)
    have q4 := q4 (by omega)
    have hs : ordK s (k + 1) = (bS (ordK s k).1 (k + 1), (ordK s k).2.take (bX (ordK s k).1 (k + 1)).toNat ++ [(k : Int)] ++ (ordK s k).2.drop (bX (ordK s k).1 (k + 1)).toNat) := rfl
    obtain ⟨m, hm⟩ : ∃ m : Nat, bX (ordK s k).1 (k + 1) = m := ⟨_, (Int.toNat_of_nonneg q3).symm⟩
    rw [hm] at q1 hs q4
    rw [Int.toNat_natCast] at hs
    generalize bS (ordK s k).1 (k + 1) = s2 at q1 q2 hs
    obtain ⟨ho1, ho2⟩ := ho
    generalize (ordK s k).1 = s1 at q1 ho1 m0
    generalize (ordK s k).2 = L at hs ho2 m32
    simp -dsimp -implicitDefEqProofs (disch := first | omega | (simp only [lenr]; done) | (simp only [lenr]; omega)) only [↓amPre, amAll, ↓reduceIte, reduceCtorEq, Nat.reduceEqDiff, Nat.reduceBEq, Nat.reduceAdd, Nat.reduceLeDiff, Nat.reduceSub, Nat.reduceMul, Int.reduceToNat, List.size_toArray, tyF, MM, bu0, ipure, kpure, tpure, sspure, kset, tset, ksnoc, tsnoc, Kind.av, Twist.sl, Twist.tr, Invar.av, f6, f1, f5, f0, m32, m0, ho2]
    refine callX_of (q1) ?_
    have hmk : m - 0 ≤ k := by omega
    have hbl : AV.bearsL (L.map AV.i64) = false := ints_bears L
    have hT : List.take (m - 0) (List.drop 0 (L.map AV.i64)) = (L.take m).map AV.i64 := by simp
    have hlm : (L.take m).length ≤ 20 := by rw [List.length_take]; omega
    simp -dsimp -implicitDefEqProofs (disch := first | omega | (simp only [lenr]; done) | (simp only [lenr]; omega)) only [↓amPre, amAll, ↓reduceIte, reduceCtorEq, Nat.reduceEqDiff, Nat.reduceBEq, Nat.reduceAdd, Nat.reduceLeDiff, Nat.reduceSub, Nat.reduceMul, Int.reduceToNat, List.size_toArray, tyF, MM, bu0, ipure, kpure, tpure, sspure, kset, tset, ksnoc, tsnoc, Kind.av, Twist.sl, Twist.tr, Invar.av, f6, f1, f5, f0, m32, m0, ho2, hmk, hbl, hT, grabL_ints]
    refine ⟨hlt, hlt, ?_, ?_, ?_⟩
    · have : (List.take (m - 0) L).length + 1 + (List.drop m L).length = k + 1 := by
        rw [List.length_take, List.length_drop]; omega
      rw [this]
    · rw [hs, Nat.sub_zero]
      simp only [itr, List.map_append]
    · rw [hs]
  · have hke : k = n := by omega
    subst hke
    simp -dsimp -implicitDefEqProofs (disch := first | omega | (simp only [lenr]; done) | (simp only [lenr]; omega)) only [↓amPre, amAll, ↓reduceIte, reduceCtorEq, Nat.reduceEqDiff, Nat.reduceBEq, Nat.reduceAdd, Nat.reduceLeDiff, Nat.reduceSub, Nat.reduceMul, Int.reduceToNat, List.size_toArray, tyF, MM, bu0, ipure, kpure, tpure, sspure, kset, tset, ksnoc, tsnoc, Kind.av, Twist.sl, Twist.tr, Invar.av, f6, f1, f5, f0, m32, m0, ho.2]
end Draws
end Go.AM
namespace Go.AM
/-! the permutation of a piece state is one -/
theorem mod_inj {o j j' b : Nat} (hj : j < o) (hj' : j' < o) (e : (j + b) % o = (j' + b) % o) : j = j' := by
  have key : ∀ j j', j ≤ j' → j' < o → (j + b) % o = (j' + b) % o → j = j' := by
    intro j j' hle hlt e
    have h1 : (j' + b - (j + b)) % o = 0 := Nat.sub_mod_eq_zero_of_mod_eq e.symm
    have h2 : j' + b - (j + b) = j' - j := by omega
    rw [h2, Nat.mod_eq_of_lt (by omega)] at h1
    omega
  rcases Nat.le_total j j' with h | h
  · exact key j j' h hj' e
  · exact (key j' j h hj e.symm).symm
theorem tmod_nat (a : Int) (o : Nat) (h : 0 ≤ a) : a.tmod (o : Int) = ((a.toNat % o : Nat) : Int) := by
  obtain ⟨n, rfl⟩ := Int.eq_ofNat_of_zero_le h
  rw [Int.tmod_eq_emod_of_nonneg (by omega)]; simp
theorem cell_mem {base to by' : Int} {o j : Nat} (hb : 0 ≤ by') (ho : 0 < o) {x : Int} (hx : x ∈ cellL base o to by' j) : ∃ m : Nat, m < o ∧ x = base + to * o + m := by
  unfold cellL at hx
  obtain ⟨i, _, rfl⟩ := List.mem_map.1 hx
  rw [tmod_nat _ _ (by omega)]
  exact ⟨_, Nat.mod_lt _ ho, rfl⟩
theorem cell_nodup {base to by' : Int} {o : Nat} (hb : 0 ≤ by') : ∀ j, j ≤ o → (cellL base o to by' j).Nodup := by
  intro j hj
  unfold cellL
  rw [List.Nodup, List.pairwise_map]
  refine List.Pairwise.imp_of_mem ?_ (List.nodup_range (n := j))
  intro a b ha hb' hab e
  rw [List.mem_range] at ha hb'
  rw [tmod_nat _ _ (by omega), tmod_nat _ _ (by omega)] at e
  have e2 : ((a : Int) + by').toNat % o = ((b : Int) + by').toNat % o := by omega
  have e3 : ((a : Int) + by').toNat = a + by'.toNat := by omega
  have e4 : ((b : Int) + by').toNat = b + by'.toNat := by omega
  rw [e3, e4] at e2
  exact hab (mod_inj (by omega) (by omega) e2)
theorem split_uniq {o m m' : Nat} {a a' : Int} (hm : m < o) (hm' : m' < o) (e : a * o + m = a' * o + m') : a = a' := by
  have h1 : (a * o + m) / (o : Int) = a := by
    rw [Int.add_comm, Int.add_mul_ediv_right _ _ (by omega), Int.ediv_eq_zero_of_lt (by omega) (by omega)]; omega
  have h2 : (a' * o + m') / (o : Int) = a' := by
    rw [Int.add_comm, Int.add_mul_ediv_right _ _ (by omega), Int.ediv_eq_zero_of_lt (by omega) (by omega)]; omega
  rw [← h1, e, h2]
theorem row_mem {base : Int} {o : Nat} {t : Twist} (ho : 0 < o) : ∀ i, i ≤ t.to.length → i ≤ t.by'.length → (∀ x ∈ t.by', 0 ≤ x) → ∀ x ∈ rowL base o t i, ∃ j m : Nat, j < i ∧ m < o ∧ x = base + t.to.getD j 0 * o + m
  | 0, _, _, _, x, hx => by simp [rowL] at hx
  | i + 1, h1, h2, hb, x, hx => by
    rw [rowL, List.mem_append] at hx
    rcases hx with hx | hx
    · obtain ⟨j, m, h3, h4, h5⟩ := row_mem ho i (by omega) (by omega) hb x hx
      exact ⟨j, m, by omega, h4, h5⟩
    · rw [Int.toNat_natCast] at hx
      obtain ⟨m, h3, h4⟩ := cell_mem (hb _ (mem_getD t.by' i 0 (by omega))) ho hx
      exact ⟨i, m, by omega, h3, h4⟩
theorem row_nodup {base : Int} {o : Nat} {t : Twist} (ho : 0 < o) (hp : isPerm t.to) : ∀ i, i ≤ t.to.length → i ≤ t.by'.length → (∀ x ∈ t.by', 0 ≤ x) → (rowL base o t i).Nodup
  | 0, _, _, _ => by simp [rowL]
  | i + 1, h1, h2, hb => by
    rw [rowL, List.nodup_append, Int.toNat_natCast]
    refine ⟨row_nodup ho hp i (by omega) (by omega) hb, cell_nodup (hb _ (mem_getD t.by' i 0 (by omega))) o (Nat.le_refl _), ?_⟩
    intro a ha b hb' e
    subst e
    obtain ⟨j, m, h3, h4, h5⟩ := row_mem ho i (by omega) (by omega) hb a ha
    obtain ⟨m', h6, h7⟩ := cell_mem (hb _ (mem_getD t.by' i 0 (by omega))) ho hb'
    have := split_uniq h4 h6 (show t.to.getD j 0 * o + m = t.to.getD i 0 * o + m' by omega)
    have := perm_inj hp (by omega) (by omega) this
    omega
theorem permL_ok {ks : List Kind} {s : List Twist} (ps : psOk ks s) : ∀ n, n ≤ ks.length → (∀ x ∈ permL ks s n, 0 ≤ x ∧ x < facets (ks.take n)) ∧ (permL ks s n).Nodup
  | 0, _ => by simp [permL]
  | n + 1, hn => by
    obtain ⟨h1, h2⟩ := permL_ok ps n (by omega)
    have ta := tw_get ps (show n < ks.length by omega)
    have hk := ps.1.2.1 _ (mem_getD ks n default (by omega))
    obtain ⟨c, o, hc, ho, la, la', c1, c2, o1, o2⟩ := twOk_facts ta hk
    have hlen := permL_len ks s ps.1.2.1 n (by omega)
    have hft := facets_take ks n (by omega)
    have hby : ∀ x ∈ (s.getD n default).by', 0 ≤ x := fun x hx => (ta.2.2.2 x hx).1
    have hrow : ∀ x ∈ rowL (permL ks s n).length o (s.getD n default) c, (permL ks s n).length ≤ x ∧ x < facets (ks.take (n + 1)) := by
      intro x hx
      obtain ⟨j, m, h3, h4, h5⟩ := row_mem (by omega) c (by omega) (by omega) hby x hx
      have hg := to_get ta (show j < (s.getD n default).to.length by omega)
      have e1 : (s.getD n default).to.getD j 0 * o ≤ ((c : Int) - 1) * o := Int.mul_le_mul_of_nonneg_right (by omega) (by omega)
      have e2 : 0 ≤ (s.getD n default).to.getD j 0 * (o : Int) := Int.mul_nonneg hg.1 (by omega)
      have e3 : ((c : Int) - 1) * o = c * o - o := by rw [Int.sub_mul]; omega
      rw [hft, hc, ho, h5]
      omega
    rw [permL, hc, ho, Int.toNat_natCast]
    refine ⟨fun x hx => ?_, ?_⟩
    · rcases List.mem_append.1 hx with hx | hx
      · have := h1 x hx
        have : 0 ≤ (c : Int) * o := Int.mul_nonneg (by omega) (by omega)
        rw [hft, hc, ho]; omega
      · have := hrow x hx; omega
    · rw [List.nodup_append]
      refine ⟨h2, row_nodup (by omega) ta.2.2.1 c (by omega) (by omega) hby, ?_⟩
      intro a ha b hb e
      subst e
      have := h1 a ha
      have := hrow a hb
      omega
theorem permOf_len {ks : List Kind} {s : List Twist} (ps : psOk ks s) : ((permOf ks s).length : Int) = facets ks := by
  have := permL_len ks s ps.1.2.1 ks.length (Nat.le_refl _)
  rwa [List.take_length] at this
theorem permOf_perm {ks : List Kind} {s : List Twist} (ps : psOk ks s) : isPerm (permOf ks s) := by
  have hl := permOf_len ps
  have hb := facets_bound ks ps.1.2.1
  have := ps.1.2.2
  have := ps.1.1.1
  obtain ⟨h1, h2⟩ := permL_ok ps ks.length (Nat.le_refl _)
  rw [List.take_length, ← hl] at h1
  exact ⟨by omega, h1, h2⟩
end Go.AM
namespace Go.AM
/-! a permutation of the facelets as a piece state -/
def pAt (p : List Int) (b o i : Nat) : Int := p.getD (b + i * o) 0 - b
def ctL (p : List Int) (b o n : Nat) : List Int := (List.range n).map fun i => (pAt p b o i).tdiv o
def cbL (p : List Int) (b o n : Nat) : List Int := (List.range n).map fun i => (pAt p b o i).tmod o
def candT (ks : List Kind) (p : List Int) (k : Nat) : Twist :=
  ⟨ctL p (facets (ks.take k)).toNat (ks.getD k default).o.toNat (ks.getD k default).c.toNat, cbL p (facets (ks.take k)).toNat (ks.getD k default).o.toNat (ks.getD k default).c.toNat⟩
def candL (ks : List Kind) (p : List Int) (n : Nat) : List Twist := (List.range n).map (candT ks p)
def ptpOk (ks : List Kind) (p : List Int) : Prop := kindsOk ks ∧ (p.length : Int) = facets ks ∧ psOk ks (candL ks p ks.length) ∧ permOf ks (candL ks p ks.length) = p
instance (ks : List Kind) (p : List Int) : Decidable (ptpOk ks p) := by unfold ptpOk; infer_instance
def ptpR (ks : List Kind) (p : List Int) : List Twist := if ptpOk ks p then candL ks p ks.length else []
end Go.AM
set_option maxRecDepth 8000
namespace Go.AM
open Go.Proofs
def cpL (a b : List Int) (k : Nat) : List Int := (List.range k).map fun i => b.getD (a.getD i 0).toNat 0
theorem cpL_succ (a b : List Int) (k : Nat) : cpL a b (k + 1) = cpL a b k ++ [b.getD (a.getD k 0).toNat 0] := range_succ_map _ k
theorem cpL_len (a b : List Int) (k : Nat) : (cpL a b k).length = k := by simp [cpL]
theorem scompose (a b : List Int) (hl : a.length ≤ 20) (h : ∀ x ∈ a, 0 ≤ x ∧ x < b.length) : SpecAt Try.prog 103 [isl a, isl b] (itr (cpL a b a.length)) := by
  refine spec_of_awp (M := MM) (np := 2) (fz := false) mixed Try.func103 rfl rfl (by decide) rfl (Nat.le_refl _) (by decide +kernel) (.inl rfl) (by first | trivial | simp only [sigsOk_nil, sigsOk_some, sigsOk_none, sig_tr, sig_pt, sig_mt, sig_agg, List.map_cons, List.map_nil, sig1_tr, sig1_pt, sig1_v, and_self, true_and, List.length_map, List.length_set]) ?_
  simp -dsimp -implicitDefEqProofs (disch := first | omega | (simp only [lenr]; done) | (simp only [lenr]; omega)) only [↓amPre, amAll, ↓reduceIte, reduceCtorEq, Nat.reduceEqDiff, Nat.reduceBEq, Nat.reduceAdd, Nat.reduceLeDiff, Nat.reduceSub, Nat.reduceMul, Int.reduceToNat, List.size_toArray, tyF, MM, bu0, ipure, kpure, tpure, sspure, kset, tset, ksnoc, tsnoc, Kind.av, Twist.sl, Twist.tr, Invar.av, stsize, stget, sttl, stapp, stext, tsspure, Model.sl, Model.tr, vset, vsnoc, vpure]
  refine awp_loopR 7 23 (.tr 1 []) (by simp -dsimp -implicitDefEqProofs (disch := first | omega | (simp only [lenr]; done) | (simp only [lenr]; omega)) only [↓amPre, amAll, ↓reduceIte, reduceCtorEq, Nat.reduceEqDiff, Nat.reduceBEq, Nat.reduceAdd, Nat.reduceLeDiff, Nat.reduceSub, Nat.reduceMul, Int.reduceToNat, List.size_toArray, tyF, MM, bu0, ipure, kpure, tpure, sspure, kset, tset, ksnoc, tsnoc, Kind.av, Twist.sl, Twist.tr, Invar.av, stsize, stget, sttl, stapp, stext, tsspure, Model.sl, Model.tr, vset, vsnoc, vpure]) (by decide) (by decide) (by decide) (fun k st => k ≤ a.length ∧ st.fr 6 = .i64 k ∧ st.fr 0 = isl a ∧ st.fr 1 = isl b ∧ st.fr 5 = .ref 23 [] 1 0 k ∧ st.mem 23 = some (itr (cpL a b k))) (a.length) ?_ ?_
  · simp -dsimp -implicitDefEqProofs (disch := first | omega | (simp only [lenr]; done) | (simp only [lenr]; omega)) only [↓amPre, amAll, ↓reduceIte, reduceCtorEq, Nat.reduceEqDiff, Nat.reduceBEq, Nat.reduceAdd, Nat.reduceLeDiff, Nat.reduceSub, Nat.reduceMul, Int.reduceToNat, List.size_toArray, tyF, MM, bu0, ipure, kpure, tpure, sspure, kset, tset, ksnoc, tsnoc, Kind.av, Twist.sl, Twist.tr, Invar.av, stsize, stget, sttl, stapp, stext, tsspure, Model.sl, Model.tr, vset, vsnoc, vpure, ren_eq]
    simp [cpL]
  rintro k st _ ⟨hk, f6, f0, f1, f5, m23⟩
  have hcl := cpL_len a b k
  have hcs := cpL_succ a b k
  by_cases hlt : k < a.length
  · obtain ⟨x0, x1⟩ := h _ (mem_getD a k 0 hlt)
    obtain ⟨m, hm⟩ : ∃ m : Nat, a.getD k 0 = m := ⟨_, (Int.toNat_of_nonneg x0).symm⟩
    rw [hm, Int.toNat_natCast] at hcs
    have hmb : m < b.length := by omega
    simp -dsimp -implicitDefEqProofs (disch := first | omega | (simp only [lenr]; done) | (simp only [lenr]; omega)) only [↓amPre, amAll, ↓reduceIte, reduceCtorEq, Nat.reduceEqDiff, Nat.reduceBEq, Nat.reduceAdd, Nat.reduceLeDiff, Nat.reduceSub, Nat.reduceMul, Int.reduceToNat, List.size_toArray, tyF, MM, bu0, ipure, kpure, tpure, sspure, kset, tset, ksnoc, tsnoc, Kind.av, Twist.sl, Twist.tr, Invar.av, stsize, stget, sttl, stapp, stext, tsspure, Model.sl, Model.tr, vset, vsnoc, vpure, f6, f0, f1, f5, m23, hm, hcl, ← hcs]
    repeat' (first | omega | rfl | exact i64c (by omega) | exact vic (by omega) | apply And.intro)
  · have hke : k = a.length := by omega
    subst hke
    simp -dsimp -implicitDefEqProofs (disch := first | omega | (simp only [lenr]; done) | (simp only [lenr]; omega)) only [↓amPre, amAll, ↓reduceIte, reduceCtorEq, Nat.reduceEqDiff, Nat.reduceBEq, Nat.reduceAdd, Nat.reduceLeDiff, Nat.reduceSub, Nat.reduceMul, Int.reduceToNat, List.size_toArray, tyF, MM, bu0, ipure, kpure, tpure, sspure, kset, tset, ksnoc, tsnoc, Kind.av, Twist.sl, Twist.tr, Invar.av, stsize, stget, sttl, stapp, stext, tsspure, Model.sl, Model.tr, vset, vsnoc, vpure, f6, f0, f1, f5, m23, hcl]
def cpR (a b : List Int) : AV := if isPerm a ∧ isPerm b ∧ a.length = b.length then .tup [itr (cpL a b a.length), .bl true] else .tup [.tr 1 [], .bl false]
def ivL (p : List Int) : Nat → List Int
  | 0 => List.replicate p.length 0
  | k + 1 => (ivL p k).set (p.getD k 0).toNat (k : Int)
theorem ivL_len (p : List Int) : ∀ k, (ivL p k).length = p.length
  | 0 => by simp [ivL]
  | k + 1 => by rw [ivL, List.length_set, ivL_len p k]
theorem sinverse (p : List Int) (hp : isPerm p) : SpecAt Try.prog 231 [isl p] (itr (ivL p p.length)) := by
  have hl20 := hp.1.2
  refine spec_of_awp (M := MM) (np := 1) (fz := false) mixed Try.func231 rfl rfl (by decide) rfl (Nat.le_refl _) (by decide +kernel) (.inl rfl) (by first | trivial | simp only [sigsOk_nil, sigsOk_some, sigsOk_none, sig_tr, sig_pt, sig_mt, sig_agg, List.map_cons, List.map_nil, sig1_tr, sig1_pt, sig1_v, and_self, true_and, List.length_map, List.length_set]) ?_
  simp -dsimp -implicitDefEqProofs (disch := first | omega | (simp only [lenr]; done) | (simp only [lenr]; omega)) only [↓amPre, amAll, ↓reduceIte, reduceCtorEq, Nat.reduceEqDiff, Nat.reduceBEq, Nat.reduceAdd, Nat.reduceLeDiff, Nat.reduceSub, Nat.reduceMul, Int.reduceToNat, List.size_toArray, tyF, MM, bu0, ipure, kpure, tpure, sspure, kset, tset, ksnoc, tsnoc, Kind.av, Twist.sl, Twist.tr, Invar.av, stsize, stget, sttl, stapp, stext, tsspure, Model.sl, Model.tr, vset, vsnoc, vpure]
  refine awp_loop (fun k st => k ≤ p.length ∧ st.fr 4 = .i64 k ∧ st.fr 0 = isl p ∧ st.fr 3 = .ref 7 [] 1 0 p.length ∧ st.mem 7 = some (itr (ivL p k))) (p.length) ?_ ?_
  · simp -dsimp -implicitDefEqProofs (disch := first | omega | (simp only [lenr]; done) | (simp only [lenr]; omega)) only [↓amPre, amAll, ↓reduceIte, reduceCtorEq, Nat.reduceEqDiff, Nat.reduceBEq, Nat.reduceAdd, Nat.reduceLeDiff, Nat.reduceSub, Nat.reduceMul, Int.reduceToNat, List.size_toArray, tyF, MM, bu0, ipure, kpure, tpure, sspure, kset, tset, ksnoc, tsnoc, Kind.av, Twist.sl, Twist.tr, Invar.av, stsize, stget, sttl, stapp, stext, tsspure, Model.sl, Model.tr, vset, vsnoc, vpure]
    simp [ivL]
  rintro k st _ ⟨hk, f4, f0, f3, m7⟩
  have hil := ivL_len p k
  have his : ivL p (k + 1) = (ivL p k).set (p.getD k 0).toNat (k : Int) := rfl
  by_cases hlt : k < p.length
  · have hx := hp.2.1 _ (mem_getD p k 0 hlt)
    obtain ⟨m, hm⟩ : ∃ m : Nat, p.getD k 0 = m := ⟨_, (Int.toNat_of_nonneg hx.1).symm⟩
    rw [hm, Int.toNat_natCast] at his
    have hmb : m < p.length := by omega
    simp -dsimp -implicitDefEqProofs (disch := first | omega | (simp only [lenr]; done) | (simp only [lenr]; omega)) only [↓amPre, amAll, ↓reduceIte, reduceCtorEq, Nat.reduceEqDiff, Nat.reduceBEq, Nat.reduceAdd, Nat.reduceLeDiff, Nat.reduceSub, Nat.reduceMul, Int.reduceToNat, List.size_toArray, tyF, MM, bu0, ipure, kpure, tpure, sspure, kset, tset, ksnoc, tsnoc, Kind.av, Twist.sl, Twist.tr, Invar.av, stsize, stget, sttl, stapp, stext, tsspure, Model.sl, Model.tr, vset, vsnoc, vpure, f4, f0, f3, m7, hm, hil, ← his]
    repeat' (first | omega | rfl | exact i64c (by omega) | exact vic (by omega) | apply And.intro)
  · have hke : k = p.length := by omega
    subst hke
    simp -dsimp -implicitDefEqProofs (disch := first | omega | (simp only [lenr]; done) | (simp only [lenr]; omega)) only [↓amPre, amAll, ↓reduceIte, reduceCtorEq, Nat.reduceEqDiff, Nat.reduceBEq, Nat.reduceAdd, Nat.reduceLeDiff, Nat.reduceSub, Nat.reduceMul, Int.reduceToNat, List.size_toArray, tyF, MM, bu0, ipure, kpure, tpure, sspure, kset, tset, ksnoc, tsnoc, Kind.av, Twist.sl, Twist.tr, Invar.av, stsize, stget, sttl, stapp, stext, tsspure, Model.sl, Model.tr, vset, vsnoc, vpure, f4, f0, f3, m7, hil]
end Go.AM
namespace Go.AM
/-! the permutation of a composite, and of an inverse, of piece states -/
theorem isPerm_of {l : List Int} (h1 : 1 ≤ l.length ∧ l.length ≤ 20) (hr : ∀ i, i < l.length → 0 ≤ l.getD i 0 ∧ l.getD i 0 < l.length) (inj : ∀ i j, i < l.length → j < l.length → l.getD i 0 = l.getD j 0 → i = j) : isPerm l := by
  refine ⟨h1, fun x hx => ?_, ?_⟩
  · obtain ⟨i, hi, rfl⟩ := List.getElem_of_mem hx
    have := hr i hi
    rwa [getD_eq _ _ _ hi] at this
  · rw [List.Nodup, List.pairwise_iff_getElem]
    intro i j hi hj hij e
    have := inj i j hi hj (by rw [getD_eq _ _ _ hi, getD_eq _ _ _ hj]; exact e)
    omega
theorem compI_perm {p q : List Int} (hp : isPerm p) (hq : isPerm q) (hl : p.length = q.length) : isPerm (compI p q) := by
  refine isPerm_of (by rw [compI_len]; exact hp.1) (fun i hi => ?_) (fun i j hi hj e => ?_)
  · rw [compI_len] at hi ⊢
    rw [compI_get _ _ _ hi]
    have h1 := perm_get hp hi
    have h2 := perm_get hq (show (p.getD i 0).toNat < q.length by omega)
    omega
  · rw [compI_len] at hi hj
    rw [compI_get _ _ _ hi, compI_get _ _ _ hj] at e
    have h1 := perm_get hp hi
    have h2 := perm_get hp hj
    have := perm_inj hq (by omega) (by omega) e
    exact perm_inj hp hi hj (by omega)
theorem invI_get {p : List Int} (hp : isPerm p) {i : Nat} (hi : i < p.length) : (invI p).getD (p.getD i 0).toNat 0 = i := by
  rw [invI, scat_get _ p _ 0 hp (by simp) _ (Nat.le_refl _) i hi]
theorem invI_perm {p : List Int} (hp : isPerm p) : isPerm (invI p) := by
  refine isPerm_of (by rw [invI_len]; exact hp.1) (fun j hj => ?_) (fun j j' hj hj' e => ?_)
  · rw [invI_len] at hj ⊢
    obtain ⟨i, hi, rfl⟩ := perm_surj hp j hj
    rw [invI_get hp hi]; omega
  · rw [invI_len] at hj hj'
    obtain ⟨i, hi, rfl⟩ := perm_surj hp j hj
    obtain ⟨i', hi', rfl⟩ := perm_surj hp j' hj'
    rw [invI_get hp hi, invI_get hp hi'] at e
    have : i = i' := by omega
    rw [this]
theorem tmod_in {a o : Int} (h : 0 ≤ a) (ho : 0 < o) : 0 ≤ a.tmod o ∧ a.tmod o < o := ⟨Int.tmod_nonneg _ h, Int.tmod_lt_of_pos _ ho⟩
theorem comp_ok {ks : List Kind} {a b : List Twist} (pa : psOk ks a) (pb : psOk ks b) : psOk ks (compS ks a b) := by
  refine ⟨pa.1, compS_len .., fun n hn => ?_⟩
  rw [compS, range_map_get _ _ _ _ hn]
  have ta := tw_get pa hn
  have tb := tw_get pb hn
  have hk := pa.1.2.1 _ (mem_getD ks n default hn)
  obtain ⟨c, o, hc, ho, la, la', c1, c2, o1, o2⟩ := twOk_facts ta hk
  obtain ⟨c', o', hc', ho', lb, lb', _⟩ := twOk_facts tb hk
  refine ⟨by simp only [compT, compI_len]; omega, by simp only [compT, range_map_len]; omega, compI_perm ta.2.2.1 tb.2.2.1 (by omega), fun x hx => ?_⟩
  obtain ⟨i, hi, rfl⟩ := List.mem_map.1 hx
  rw [List.mem_range] at hi
  have h1 := by_get ta (show i < (a.getD n default).by'.length by omega)
  have h2 := to_get ta hi
  have h3 := by_get tb (show ((a.getD n default).to.getD i 0).toNat < (b.getD n default).by'.length by omega)
  exact tmod_in (by omega) (by omega)
def bas (ks : List Kind) (n : Nat) : Nat := (facets (ks.take n)).toNat
theorem cell_get {base o to by' : Int} {n j : Nat} (h : j < n) : (cellL base o to by' n).getD j 0 = base + to * o + ((j : Int) + by').tmod o := by
  unfold cellL; rw [range_map_get _ _ _ _ h]
theorem getD_app_l {α : Type} (a b : List α) (i : Nat) (d : α) (h : i < a.length) : (a ++ b).getD i d = a.getD i d := by
  simp only [List.getD, List.getElem?_append_left h]
theorem getD_app_r {α : Type} (a b : List α) (i : Nat) (d : α) : (a ++ b).getD (a.length + i) d = b.getD i d := by
  simp only [List.getD, List.getElem?_append_right (show a.length ≤ a.length + i by omega)]
  congr 2; omega
theorem in_row {i j c o : Nat} (hi : i < c) (hj : j < o) : i * o + j < c * o := by
  have h1 : (i + 1) * o ≤ c * o := Nat.mul_le_mul_right o hi
  rw [Nat.succ_mul] at h1; omega
theorem row_get {base : Int} {o : Nat} {t : Twist} : ∀ m i j, i < m → j < o → (rowL base o t m).getD (i * o + j) 0 = base + t.to.getD i 0 * o + ((j : Int) + t.by'.getD i 0).tmod o
  | m + 1, i, j, hi, hj => by
    have hl := rowL_len base o t m
    rw [Int.toNat_natCast] at hl
    rw [rowL, Int.toNat_natCast]
    by_cases h : i < m
    · rw [getD_app_l _ _ _ _ (by rw [hl]; exact in_row h hj)]
      exact row_get m i j h hj
    · have : i = m := by omega
      subst this
      have e : i * o + j = (rowL base o t i).length + j := by rw [hl]
      rw [e, getD_app_r, cell_get hj]
theorem bas_len {ks : List Kind} {s : List Twist} (h : ∀ k ∈ ks, kOk k) {n : Nat} (hn : n ≤ ks.length) : (permL ks s n).length = bas ks n := by
  have := permL_len ks s h n hn
  unfold bas; omega
theorem bas_succ {ks : List Kind} (h : kindsOk ks) {n c o : Nat} (hn : n < ks.length) (hc : (ks.getD n default).c = c) (ho : (ks.getD n default).o = o) : bas ks (n + 1) = bas ks n + c * o := by
  have h1 := facets_take ks n hn
  have h2 := (facets_mono ks h.2.1 n).2
  have h3 : ((c * o : Nat) : Int) = (c : Int) * o := by simp
  rw [hc, ho, ← h3] at h1
  unfold bas; omega
theorem bas_le {ks : List Kind} (h : kindsOk ks) {m : Nat} : ∀ d, m + d ≤ ks.length → bas ks m ≤ bas ks (m + d)
  | 0, _ => Nat.le_refl _
  | d + 1, hd => by
    have hk := h.2.1 _ (mem_getD ks (m + d) default (by omega))
    have ih := bas_le h (m := m) d (by omega)
    obtain ⟨c, hc⟩ : ∃ c : Nat, (ks.getD (m + d) default).c = c := ⟨_, (Int.toNat_of_nonneg (by have := hk.1; omega)).symm⟩
    obtain ⟨o, ho⟩ : ∃ o : Nat, (ks.getD (m + d) default).o = o := ⟨_, (Int.toNat_of_nonneg (by have := hk.2; omega)).symm⟩
    have := bas_succ h (show m + d < ks.length by omega) hc ho
    rw [← Nat.add_assoc, this]; omega
theorem permL_get {ks : List Kind} {s : List Twist} (ps : psOk ks s) : ∀ n, n ≤ ks.length → ∀ (k i j c o : Nat), k < n → (ks.getD k default).c = c → (ks.getD k default).o = o → i < c → j < o →
    (permL ks s n).getD (bas ks k + (i * o + j)) 0 = bas ks k + (s.getD k default).to.getD i 0 * o + ((j : Int) + (s.getD k default).by'.getD i 0).tmod o
  | n + 1, hn, k, i, j, c, o, hk, hc, ho, hi, hj => by
    have hl := bas_len (s := s) ps.1.2.1 (show n ≤ ks.length by omega)
    rw [permL]
    by_cases h : k < n
    · have h1 := bas_succ ps.1 (show k < ks.length by omega) hc ho
      have h2 := bas_le ps.1 (m := k + 1) (n - (k + 1)) (by omega)
      rw [show k + 1 + (n - (k + 1)) = n by omega] at h2
      have h3 := in_row hi hj
      rw [getD_app_l _ _ _ _ (by omega)]
      exact permL_get ps n (by omega) k i j c o h hc ho hi hj
    · have : k = n := by omega
      subst this
      rw [← hl, getD_app_r, hc, ho, Int.toNat_natCast, row_get c i j hi hj]
theorem bas_surj {ks : List Kind} (h : kindsOk ks) : ∀ n, n ≤ ks.length → ∀ x, x < bas ks n → ∃ k i j c o : Nat, k < n ∧ (ks.getD k default).c = c ∧ (ks.getD k default).o = o ∧ i < c ∧ j < o ∧ x = bas ks k + (i * o + j)
  | 0, _, x, hx => by simp [bas, facets] at hx
  | n + 1, hn, x, hx => by
    by_cases h1 : x < bas ks n
    · obtain ⟨k, i, j, c, o, h2, h3⟩ := bas_surj h n (by omega) x h1
      exact ⟨k, i, j, c, o, by omega, h3⟩
    · have hk := h.2.1 _ (mem_getD ks n default (by omega))
      obtain ⟨c, hc⟩ : ∃ c : Nat, (ks.getD n default).c = c := ⟨_, (Int.toNat_of_nonneg (by have := hk.1; omega)).symm⟩
      obtain ⟨o, ho⟩ : ∃ o : Nat, (ks.getD n default).o = o := ⟨_, (Int.toNat_of_nonneg (by have := hk.2; omega)).symm⟩
      have hb := bas_succ h (show n < ks.length by omega) hc ho
      have ho1 : 0 < o := by have := hk.2; omega
      refine ⟨n, (x - bas ks n) / o, (x - bas ks n) % o, c, o, by omega, hc, ho, ?_, Nat.mod_lt _ ho1, ?_⟩
      · rw [Nat.div_lt_iff_lt_mul ho1]; omega
      · have := Nat.div_add_mod (x - bas ks n) o
        rw [Nat.mul_comm] at this; omega
theorem kinds_nat {ks : List Kind} {a : List Twist} (pa : psOk ks a) {k i c o j : Nat} (hk : k < ks.length) (hc : (ks.getD k default).c = c) (ho : (ks.getD k default).o = o) (hi : i < c) (hj : j < o) :
    ∃ t b m : Nat, (a.getD k default).to.getD i 0 = t ∧ (a.getD k default).by'.getD i 0 = b ∧ t < c ∧ b < o ∧ m < o ∧ m = (j + b) % o ∧ (permOf ks a).getD (bas ks k + (i * o + j)) 0 = ((bas ks k + (t * o + m) : Nat) : Int) := by
  have ta := tw_get pa hk
  have hl : ((a.getD k default).to.length : Int) = c := by rw [← hc]; exact ta.1
  have hl' : ((a.getD k default).by'.length : Int) = c := by rw [← hc]; exact ta.2.1
  have h1 := to_get ta (show i < (a.getD k default).to.length by omega)
  have h2 := by_get ta (show i < (a.getD k default).by'.length by omega)
  obtain ⟨t, ht⟩ : ∃ t : Nat, (a.getD k default).to.getD i 0 = t := ⟨_, (Int.toNat_of_nonneg h1.1).symm⟩
  obtain ⟨b, hb⟩ : ∃ b : Nat, (a.getD k default).by'.getD i 0 = b := ⟨_, (Int.toNat_of_nonneg h2.1).symm⟩
  have hg := permL_get pa ks.length (Nat.le_refl _) k i j c o hk hc ho hi hj
  rw [ht, hb, tmod_nat _ _ (by omega), show ((j : Int) + (b : Int)).toNat = j + b by omega] at hg
  refine ⟨t, b, (j + b) % o, ht, hb, by omega, by omega, Nat.mod_lt _ (by omega), rfl, ?_⟩
  show (permL ks a ks.length).getD _ 0 = _
  rw [hg, Int.natCast_add, Int.natCast_add, Int.natCast_mul]; omega
theorem permOf_length {ks : List Kind} {a : List Twist} (pa : psOk ks a) : (permOf ks a).length = bas ks ks.length := bas_len pa.1.2.1 (Nat.le_refl _)
theorem perm_comp {ks : List Kind} {a b : List Twist} (pa : psOk ks a) (pb : psOk ks b) : permOf ks (compS ks a b) = compI (permOf ks a) (permOf ks b) := by
  have pc := comp_ok pa pb
  refine ext_getD 0 (by rw [compI_len, permOf_length pc, permOf_length pa]) fun x hx => ?_
  rw [permOf_length pc] at hx
  rw [compI_get _ _ _ (by rw [permOf_length pa]; exact hx)]
  obtain ⟨k, i, j, c, o, hk, hc, ho, hi, hj, rfl⟩ := bas_surj pa.1 _ (Nat.le_refl _) x hx
  obtain ⟨t, y, m, h1, h2, h3, h4, h5, h6, h7⟩ := kinds_nat pa hk hc ho hi hj
  obtain ⟨t', y', m', g1, g2, g3, g4, g5, g6, g7⟩ := kinds_nat pb hk hc ho h3 h5
  obtain ⟨t'', y'', m'', f1, f2, f3, f4, f5, f6, f7⟩ := kinds_nat pc hk hc ho hi hj
  rw [h7, Int.toNat_natCast, g7, f7]
  have ta := tw_get pa hk
  have hl : ((a.getD k default).to.length : Int) = c := by rw [← hc]; exact ta.1
  have hcomp : (compS ks a b).getD k default = compT (ks.getD k default).o (a.getD k default) (b.getD k default) := by rw [compS, range_map_get _ _ _ _ hk]
  rw [hcomp] at f1 f2
  simp only [compT] at f1 f2
  rw [compI_get _ _ _ (by omega), h1, Int.toNat_natCast, g1] at f1
  rw [range_map_get _ _ _ _ (by omega), compB, h1, h2, Int.toNat_natCast, g2, ho, tmod_nat _ _ (by omega), show ((y : Int) + (y' : Int)).toNat = y + y' by omega] at f2
  have e1 : t'' = t' := by omega
  have e2 : y'' = (y + y') % o := by omega
  have e3 : m'' = m' := by rw [f6, g6, h6, e2, Nat.add_mod_mod, Nat.mod_add_mod, Nat.add_assoc]
  rw [e1, e3]
end Go.AM
namespace Go.AM
/-! the effect of a word; the points that it moves -/
def letP (mv : List (List Int)) (x : Int) : List Int := if 0 < x then mv.getD (x - 1).toNat default else invI (mv.getD (-x - 1).toNat default)
def effK (n : Int) (mv : List (List Int)) (w : List Int) : Nat → List Int
  | 0 => runI 0 n.toNat
  | k + 1 => compI (effK n mv w k) (letP mv (w.getD k 0))
theorem run_perm {n : Nat} (h1 : 1 ≤ n) (h2 : n ≤ 20) : isPerm (runI 0 n) := by
  refine isPerm_of (by rw [runI_len]; omega) (fun i hi => ?_) (fun i j hi hj e => ?_)
  · rw [runI_len] at hi ⊢
    rw [runI_get 0 n i hi]; omega
  · rw [runI_len] at hi hj
    rw [runI_get 0 n i hi, runI_get 0 n j hj] at e; omega
theorem letP_ok {n : Int} {mv : List (List Int)} (h : genOk n mv) {x : Int} (hx : letOk mv.length x) : moveOk n (letP mv x) := by
  unfold letOk at hx
  unfold letP
  split
  · exact h.2.2 _ (mem_getD mv _ default (by omega))
  · have := h.2.2 _ (mem_getD mv (-x - 1).toNat default (by omega))
    exact ⟨by rw [invI_len]; exact this.1, invI_perm this.2⟩
theorem effK_ok {n : Int} {mv : List (List Int)} {w : List Int} (h : genOk n mv) (hw : wordOk mv.length w) : ∀ k, k ≤ w.length → moveOk n (effK n mv w k)
  | 0, _ => ⟨by rw [effK, runI_len]; have := h.1; omega, run_perm (by have := h.1; omega) (by have := h.1; omega)⟩
  | k + 1, hk => by
    have ih := effK_ok h hw k (by omega)
    have hl := letP_ok h (hw.2 _ (mem_getD w k 0 (by omega)))
    exact ⟨by rw [effK, compI_len]; exact ih.1, compI_perm ih.2 hl.2 (by have := ih.1; have := hl.1; omega)⟩
def movL (p : List Int) (k : Nat) : List Int := ((List.range k).filter fun i => p.getD i 0 != (i : Int)).map fun (i : Nat) => (i : Int)
def imgL (p : List Int) (k : Nat) : List Int := ((List.range k).filter fun i => p.getD i 0 != (i : Int)).map fun i => p.getD i 0
end Go.AM
namespace Go.Proofs
open Go.Shelf
def Try.sortL_ren : Go.Shelf.Ren := ⟨fun | 5 => 213 | 8 => 252 | 7 => 251 | 19 => 272 | 20 => 273 | 10 => 263 | 11 => 264 | 12 => 265 | 13 => 266 | 14 => 267 | 15 => 268 | 16 => 269 | 17 => 270 | 18 => 271 | 30 => 277 | 31 => 278 | 32 => 279 | 33 => 280 | 34 => 281 | 35 => 282 | 40 => 283 | n => n, fun | 23 => 52 | 25 => 2 | 3 => 3 | 32 => 111 | 22 => 52 | 0 => 0 | 44 => 243 | 46 => 34 | 4 => 4 | 36 => 236 | 35 => 235 | 41 => 240 | 5 => 5 | 9 => 9 | 53 => 247 | 57 => 251 | 63 => 253 | 64 => 254 | n => n, fun | n => n⟩
end Go.Proofs
set_option maxRecDepth 8000
namespace Go.AM
open Go.Proofs
theorem sIdentity (n : Nat) (hn : n ≤ 20) : SpecAt Try.prog 132 [.i64 n] (itr (runI 0 n)) := by
  refine spec_of_awp (M := MM) (np := 1) (fz := false) mixed Try.func132 rfl rfl (by decide) rfl (Nat.le_refl _) (by decide +kernel) (.inl rfl) (by first | trivial | simp only [sigsOk_nil, sigsOk_some, sigsOk_none, sig_tr, sig_pt, sig_mt, sig_agg, List.map_cons, List.map_nil, sig1_tr, sig1_pt, sig1_v, and_self, true_and, List.length_map, List.length_set]) ?_
  simp -dsimp -implicitDefEqProofs (disch := first | omega | (simp only [lenr]; done) | (simp only [lenr]; omega)) only [↓amPre, amAll, ↓reduceIte, reduceCtorEq, Nat.reduceEqDiff, Nat.reduceBEq, Nat.reduceAdd, Nat.reduceLeDiff, Nat.reduceSub, Nat.reduceMul, Int.reduceToNat, List.size_toArray, tyF, MM, bu0, ipure, kpure, tpure, sspure, kset, tset, ksnoc, tsnoc, Kind.av, Twist.sl, Twist.tr, Invar.av, stsize, stget, sttl, stapp, stext, tsspure, Model.sl, Model.tr, vset, vsnoc, vpure, Puzz.sl, Puzz.tr]
  refine awp_loop (fun k st => k ≤ n ∧ st.fr 4 = .i64 k ∧ st.fr 0 = .i64 n ∧ ((k = 0 ∧ st.fr 3 = .ref 5 [] 1 0 0 ∧ st.mem 5 = some (.tr 1 [])) ∨ (0 < k ∧ st.fr 3 = .ref 14 [] 1 0 k ∧ st.mem 14 = some (itr (runI 0 k))))) (n) ?_ ?_
  · simp -dsimp -implicitDefEqProofs (disch := first | omega | (simp only [lenr]; done) | (simp only [lenr]; omega)) only [↓amPre, amAll, ↓reduceIte, reduceCtorEq, Nat.reduceEqDiff, Nat.reduceBEq, Nat.reduceAdd, Nat.reduceLeDiff, Nat.reduceSub, Nat.reduceMul, Int.reduceToNat, List.size_toArray, tyF, MM, bu0, ipure, kpure, tpure, sspure, kset, tset, ksnoc, tsnoc, Kind.av, Twist.sl, Twist.tr, Invar.av, stsize, stget, sttl, stapp, stext, tsspure, Model.sl, Model.tr, vset, vsnoc, vpure, Puzz.sl, Puzz.tr]
    simp
  rintro k st _ ⟨hk, f4, f0, ek⟩
  have hr := runI_succ 0 k
  rw [Int.zero_add] at hr
  have hl := runI_len 0 k
  have hl2 := runI_len 0 (k + 1)
  rcases ek with ⟨rfl, g3, g5⟩ | ⟨h0, g3, g5⟩
  · by_cases hlt : 0 < n
    · have h1 : runI 0 1 = [0] := rfl
      simp -dsimp -implicitDefEqProofs (disch := first | omega | (simp only [lenr]; done) | (simp only [lenr]; omega)) only [↓amPre, amAll, ↓reduceIte, reduceCtorEq, Nat.reduceEqDiff, Nat.reduceBEq, Nat.reduceAdd, Nat.reduceLeDiff, Nat.reduceSub, Nat.reduceMul, Int.reduceToNat, List.size_toArray, tyF, MM, bu0, ipure, kpure, tpure, sspure, kset, tset, ksnoc, tsnoc, Kind.av, Twist.sl, Twist.tr, Invar.av, stsize, stget, sttl, stapp, stext, tsspure, Model.sl, Model.tr, vset, vsnoc, vpure, Puzz.sl, Puzz.tr, f4, f0, g3, g5]
      repeat' (first | omega | rfl | exact i64c (by omega) | exact vic (by omega) | apply And.intro)
    · have hke : n = 0 := by omega
      subst hke
      simp -dsimp -implicitDefEqProofs (disch := first | omega | (simp only [lenr]; done) | (simp only [lenr]; omega)) only [↓amPre, amAll, ↓reduceIte, reduceCtorEq, Nat.reduceEqDiff, Nat.reduceBEq, Nat.reduceAdd, Nat.reduceLeDiff, Nat.reduceSub, Nat.reduceMul, Int.reduceToNat, List.size_toArray, tyF, MM, bu0, ipure, kpure, tpure, sspure, kset, tset, ksnoc, tsnoc, Kind.av, Twist.sl, Twist.tr, Invar.av, stsize, stget, sttl, stapp, stext, tsspure, Model.sl, Model.tr, vset, vsnoc, vpure, Puzz.sl, Puzz.tr, f4, f0, g3, g5]
      rfl
  · by_cases hlt : k < n
    · simp -dsimp -implicitDefEqProofs (disch := first | omega | (simp only [lenr]; done) | (simp only [lenr]; omega)) only [↓amPre, amAll, ↓reduceIte, reduceCtorEq, Nat.reduceEqDiff, Nat.reduceBEq, Nat.reduceAdd, Nat.reduceLeDiff, Nat.reduceSub, Nat.reduceMul, Int.reduceToNat, List.size_toArray, tyF, MM, bu0, ipure, kpure, tpure, sspure, kset, tset, ksnoc, tsnoc, Kind.av, Twist.sl, Twist.tr, Invar.av, stsize, stget, sttl, stapp, stext, tsspure, Model.sl, Model.tr, vset, vsnoc, vpure, Puzz.sl, Puzz.tr, f4, f0, g3, g5, hl, ← hr]
      repeat' (first | omega | rfl | exact i64c (by omega) | exact vic (by omega) | apply And.intro)
    · have hke : k = n := by omega
      subst hke
      simp -dsimp -implicitDefEqProofs (disch := first | omega | (simp only [lenr]; done) | (simp only [lenr]; omega)) only [↓amPre, amAll, ↓reduceIte, reduceCtorEq, Nat.reduceEqDiff, Nat.reduceBEq, Nat.reduceAdd, Nat.reduceLeDiff, Nat.reduceSub, Nat.reduceMul, Int.reduceToNat, List.size_toArray, tyF, MM, bu0, ipure, kpure, tpure, sspure, kset, tset, ksnoc, tsnoc, Kind.av, Twist.sl, Twist.tr, Invar.av, stsize, stget, sttl, stapp, stext, tsspure, Model.sl, Model.tr, vset, vsnoc, vpure, Puzz.sl, Puzz.tr, f4, f0, g3, g5, hl]
theorem ivL_invI (p : List Int) : ivL p p.length = invI p := by
  have h : ∀ k, ivL p k = scat (List.replicate p.length 0) p (fun i => (i : Int)) k := by
    intro k
    induction k with
    | zero => rfl
    | succ k ih => rw [ivL, scat, ih]
  exact h _
end Go.AM
set_option maxRecDepth 8000
namespace Go.AM
open Go.Proofs
def supR (p : Puzz) (w : List Int) : List Int := if puzzOk p ∧ wordOk p.mv.length w then movL (effK p.n p.mv w w.length) p.n.toNat else []
end Go.AM
set_option maxRecDepth 8000
namespace Go.AM
open Go.Proofs
def canScr (p : Puzz) (x c : Int) : Prop := puzzOk p ∧ within x 0 2147483646 = true ∧ within c 0 200 = true
instance (p : Puzz) (x c : Int) : Decidable (canScr p x c) := by unfold canScr; infer_instance
def scrR (p : Puzz) (x c : Int) : List Int := if canScr p x c then scrW p.mv.length x c.toNat else []
end Go.AM
set_option maxRecDepth 8000
namespace Go.AM
open Go.Proofs
def pwL (e : List Int) (k : Nat) : List Int := (List.range e.length).map fun x => ((itN (fOf e) k x : Nat) : Int)
def lcmK (L : List (List Int)) : Nat → Nat
  | 0 => 1
  | j + 1 => Nat.lcm (lcmK L j) (L.getD j default).length
def ordE (e : List Int) : Nat := lcmK (longC (cycI e)) (longC (cycI e)).length
def spK (e : List Int) : Nat → Nat × Nat
  | 0 => (0, 0)
  | j + 1 => if (spK e j).1 = 0 ∨ (movL (pwL e (j + 1)) e.length).length < (spK e j).2 then (j + 1, (movL (pwL e (j + 1)) e.length).length) else spK e j
end Go.AM
set_option maxRecDepth 8000
namespace Go.AM
open Go.Proofs
def treeGcd : OT := (.alt 0 (.alt 1 (.alt 2 (.alt 3 (.alt 4 (.alt 5 .done .stop) .stop) (.alt 4 (.alt 3 (.alt 5 .done .stop) .stop) .stop)) (.alt 4 (.alt 2 (.alt 3 (.alt 5 .done .stop) .stop) .stop) .stop)) (.alt 2 (.alt 1 (.alt 3 (.alt 4 (.alt 5 .done .stop) .stop) (.alt 4 (.alt 3 (.alt 5 .done .stop) .stop) .stop)) .stop) .stop)) (.alt 1 (.alt 0 (.alt 2 (.alt 3 (.alt 4 (.alt 5 .done .stop) .stop) (.alt 4 (.alt 3 (.alt 5 .done .stop) .stop) .stop)) (.alt 4 (.alt 2 (.alt 3 (.alt 5 .done .stop) .stop) .stop) .stop)) (.alt 2 (.alt 0 (.alt 3 (.alt 4 (.alt 5 .done .stop) .stop) (.alt 4 (.alt 3 (.alt 5 .done .stop) .stop) .stop)) (.alt 3 (.alt 0 (.alt 4 (.alt 5 .done .stop) .stop) .stop) .stop)) .stop)) (.alt 2 (.alt 0 (.alt 1 (.alt 3 (.alt 4 (.alt 5 .done .stop) .stop) (.alt 4 (.alt 3 (.alt 5 .done .stop) .stop) .stop)) .stop) (.alt 1 (.alt 0 (.alt 3 (.alt 4 (.alt 5 .done .stop) .stop) (.alt 4 (.alt 3 (.alt 5 .done .stop) .stop) .stop)) (.alt 3 (.alt 0 (.alt 4 (.alt 5 .done .stop) .stop) .stop) .stop)) .stop)) .stop)))
def gcK (a b : Nat) : Nat → Nat × Nat
  | 0 => (a, b)
  | k + 1 => ((gcK a b k).2, (gcK a b k).1 % (gcK a b k).2)
end Go.AM
set_option maxRecDepth 8000
namespace Go.AM
open Go.Proofs
theorem cp_comp (p q : List Int) : cpL p q p.length = compI p q := by
  refine ext_getD 0 (by rw [cpL_len, compI_len]) fun i hi => ?_
  rw [cpL_len] at hi
  rw [cpL, range_map_get _ _ _ _ hi, compI_get _ _ _ hi]
def spR (p : Puzz) (w : List Int) : Nat × Nat := if puzzOk p ∧ wordOk p.mv.length w then spK (effK p.n p.mv w w.length) (ordE (effK p.n p.mv w w.length) - 1) else (0, 0)
abbrev spA (x : Nat × Nat) : AV := .tup [.i64 x.1, .i64 x.2]
end Go.AM
set_option maxRecDepth 8000
namespace Go.AM
open Go.Proofs
def consM (m : Model) (i : Invar) : Prop := modelOk m ∧ ∀ s ∈ m.mv, invV m.ks s i = 0
instance (m : Model) (i : Invar) : Decidable (consM m i) := by unfold consM; infer_instance
def trivK (ks : List Kind) (set : Int) : Nat → Bool
  | 0 => true
  | k + 1 => trivK ks set k && !(bitK set k && decide (1 < (ks.getD k default).c))
def trivI (ks : List Kind) (i : Invar) : Bool := if i.k = 1 then decide ((ks.getD i.s.toNat default).o = 1) else trivK ks i.s ks.length
end Go.AM
set_option maxRecDepth 8000
namespace Go.AM
open Go.Proofs
def keepI (m : Model) (i : Invar) : Bool := !trivI m.ks i && decide (consM m i)
def allI (ks : List Kind) : List Invar := twL ks.length ++ paL (2 ^ ks.length - 1)
def consL (m : Model) : List Invar := (allI m.ks).filter (keepI m)
def consR (m : Model) : List Invar := if modelOk m then consL m else []
end Go.AM
set_option maxRecDepth 8000
namespace Go.AM
open Go.Proofs
def vioO (m : Model) (s : List Twist) : Option Invar := if psOk m.ks s then (consR m).find? (fun i => invV m.ks s i != 0) else none
def vioR (o : Option Invar) : AV := match o with | some i => .tup [i.av, .bl true] | none => .tup [(⟨0, 0⟩ : Invar).av, .bl false]
end Go.AM
set_option maxRecDepth 8000
namespace Go.AM
open Go.Proofs
theorem sLetter (n : Int) (mv : List (List Int)) (x : Int) (hp : genOk n mv) (hx : letOk mv.length x) : SpecAt Try.prog 188 [ssl mv, .i64 x] (isl (letP mv x)) ∨ SpecAt Try.prog 188 [ssl mv, .i64 x] (itr (letP mv x)) := by
  have hlx : letP mv x = _ := rfl
  conv at hlx => rhs; rw [letP]
  unfold letOk at hx
  have hm8 := hp.2.1
  by_cases c0 : 0 < x
  · obtain ⟨m, hm1⟩ : ∃ m : Nat, x - 1 = m := ⟨_, (Int.toNat_of_nonneg (by omega)).symm⟩
    rw [if_pos c0, hm1, Int.toNat_natCast] at hlx
    have hmlt : m < mv.length := by omega
    have c1 : 0 ≤ x := by omega
    rw [hlx]
    left
    refine spec_of_awp (M := MM) (np := 2) (fz := true) mixed Try.func188 rfl rfl (by decide) rfl (Nat.le_refl _) (by decide +kernel) (.inr ⟨rfl, rfl⟩) trivial ?_
    simp -dsimp -implicitDefEqProofs (disch := first | omega | (simp only [lenr]; done) | (simp only [lenr]; omega)) only [↓amPre, amAll, ↓reduceIte, reduceCtorEq, Nat.reduceEqDiff, Nat.reduceBEq, Nat.reduceAdd, Nat.reduceLeDiff, Nat.reduceSub, Nat.reduceMul, Int.reduceToNat, List.size_toArray, tyF, MM, bu0, ipure, kpure, tpure, sspure, kset, tset, ksnoc, tsnoc, Kind.av, Twist.sl, Twist.tr, Invar.av, stsize, stget, sttl, stapp, stext, tsspure, Model.sl, Model.tr, vset, vsnoc, vpure, Puzz.sl, Puzz.tr, lt_false c1, hm1]
  · obtain ⟨m, hm1⟩ : ∃ m : Nat, -x - 1 = m := ⟨_, (Int.toNat_of_nonneg (by omega)).symm⟩
    rw [if_neg c0, hm1, Int.toNat_natCast] at hlx
    have hmlt : m < mv.length := by omega
    have hw : IntKind.i64.wrap (0 - x) = 0 - x := wrap64_id (by omega)
    have hm2 : 0 - x - 1 = m := by omega
    have c1 : x < 0 := by omega
    have hq := hp.2.2 _ (mem_getD mv m default hmlt)
    rw [hlx]
    generalize hM : mv.getD m default = M at hq
    have hM20 := hq.2.1.2
    have hv := sinverse M hq.2
    rw [ivL_invI] at hv
    right
    refine spec_of_awp (M := MM) (np := 2) (fz := false) mixed Try.func188 rfl rfl (by decide) rfl (Nat.le_refl _) (by decide +kernel) (.inl rfl) (by first | trivial | simp only [sigsOk_nil, sigsOk_some, sigsOk_none, sig_tr, sig_pt, sig_mt, sig_agg, List.map_cons, List.map_nil, sig1_tr, sig1_pt, sig1_v, and_self, true_and, List.length_map, List.length_set]) ?_
    simp -dsimp -implicitDefEqProofs (disch := first | omega | (simp only [lenr]; done) | (simp only [lenr]; omega)) only [↓amPre, amAll, ↓reduceIte, reduceCtorEq, Nat.reduceEqDiff, Nat.reduceBEq, Nat.reduceAdd, Nat.reduceLeDiff, Nat.reduceSub, Nat.reduceMul, Int.reduceToNat, List.size_toArray, tyF, MM, bu0, ipure, kpure, tpure, sspure, kset, tset, ksnoc, tsnoc, Kind.av, Twist.sl, Twist.tr, Invar.av, stsize, stget, sttl, stapp, stext, tsspure, Model.sl, Model.tr, vset, vsnoc, vpure, Puzz.sl, Puzz.tr, lt_true c1, hw, hm2, hM]
    refine callP_of (hv) ?_
    simp -dsimp -implicitDefEqProofs (disch := first | omega | (simp only [lenr]; done) | (simp only [lenr]; omega)) only [↓amPre, amAll, ↓reduceIte, reduceCtorEq, Nat.reduceEqDiff, Nat.reduceBEq, Nat.reduceAdd, Nat.reduceLeDiff, Nat.reduceSub, Nat.reduceMul, Int.reduceToNat, List.size_toArray, tyF, MM, bu0, ipure, kpure, tpure, sspure, kset, tset, ksnoc, tsnoc, Kind.av, Twist.sl, Twist.tr, Invar.av, stsize, stget, sttl, stapp, stext, tsspure, Model.sl, Model.tr, vset, vsnoc, vpure, Puzz.sl, Puzz.tr, hM]
theorem sEvaluate (n : Nat) (mv : List (List Int)) (w : List Int) (hp : genOk n mv) (hw : wordOk mv.length w) : SpecAt Try.prog 104 [.i64 n, ssl mv, isl w] (itr (effK n mv w w.length)) := by
  have hn := hp.1
  have h1 := sIdentity n (by omega)
  have hw2 := hw.1
  have hr := runI_len 0 n
  refine spec_of_awp (M := MM) (np := 3) (fz := false) mixed Try.func104 rfl rfl (by decide) rfl (Nat.le_refl _) (by decide +kernel) (.inl rfl) (by first | trivial | simp only [sigsOk_nil, sigsOk_some, sigsOk_none, sig_tr, sig_pt, sig_mt, sig_agg, List.map_cons, List.map_nil, sig1_tr, sig1_pt, sig1_v, and_self, true_and, List.length_map, List.length_set]) ?_
  simp -dsimp -implicitDefEqProofs (disch := first | omega | (simp only [lenr]; done) | (simp only [lenr]; omega)) only [↓amPre, amAll, ↓reduceIte, reduceCtorEq, Nat.reduceEqDiff, Nat.reduceBEq, Nat.reduceAdd, Nat.reduceLeDiff, Nat.reduceSub, Nat.reduceMul, Int.reduceToNat, List.size_toArray, tyF, MM, bu0, ipure, kpure, tpure, sspure, kset, tset, ksnoc, tsnoc, Kind.av, Twist.sl, Twist.tr, Invar.av, stsize, stget, sttl, stapp, stext, tsspure, Model.sl, Model.tr, vset, vsnoc, vpure, Puzz.sl, Puzz.tr]
  refine callP_of (h1) ?_
  simp -dsimp -implicitDefEqProofs (disch := first | omega | (simp only [lenr]; done) | (simp only [lenr]; omega)) only [↓amPre, amAll, ↓reduceIte, reduceCtorEq, Nat.reduceEqDiff, Nat.reduceBEq, Nat.reduceAdd, Nat.reduceLeDiff, Nat.reduceSub, Nat.reduceMul, Int.reduceToNat, List.size_toArray, tyF, MM, bu0, ipure, kpure, tpure, sspure, kset, tset, ksnoc, tsnoc, Kind.av, Twist.sl, Twist.tr, Invar.av, stsize, stget, sttl, stapp, stext, tsspure, Model.sl, Model.tr, vset, vsnoc, vpure, Puzz.sl, Puzz.tr, hr]
  refine awp_loopR 10 24 (itr (runI 0 n)) (by simp -dsimp -implicitDefEqProofs (disch := first | omega | (simp only [lenr]; done) | (simp only [lenr]; omega)) only [↓amPre, amAll, ↓reduceIte, reduceCtorEq, Nat.reduceEqDiff, Nat.reduceBEq, Nat.reduceAdd, Nat.reduceLeDiff, Nat.reduceSub, Nat.reduceMul, Int.reduceToNat, List.size_toArray, tyF, MM, bu0, ipure, kpure, tpure, sspure, kset, tset, ksnoc, tsnoc, Kind.av, Twist.sl, Twist.tr, Invar.av, stsize, stget, sttl, stapp, stext, tsspure, Model.sl, Model.tr, vset, vsnoc, vpure, Puzz.sl, Puzz.tr]) (by decide) (by decide) (by decide) (fun k st => k ≤ w.length ∧ st.fr 8 = .i64 k ∧ st.fr 7 = .ref 24 [] 1 0 (effK n mv w k).length ∧ st.fr 1 = ssl mv ∧ st.fr 2 = isl w ∧ st.mem 24 = some (itr (effK n mv w k))) (w.length) ?_ ?_
  · simp -dsimp -implicitDefEqProofs (disch := first | omega | (simp only [lenr]; done) | (simp only [lenr]; omega)) only [↓amPre, amAll, ↓reduceIte, reduceCtorEq, Nat.reduceEqDiff, Nat.reduceBEq, Nat.reduceAdd, Nat.reduceLeDiff, Nat.reduceSub, Nat.reduceMul, Int.reduceToNat, List.size_toArray, tyF, MM, bu0, ipure, kpure, tpure, sspure, kset, tset, ksnoc, tsnoc, Kind.av, Twist.sl, Twist.tr, Invar.av, stsize, stget, sttl, stapp, stext, tsspure, Model.sl, Model.tr, vset, vsnoc, vpure, Puzz.sl, Puzz.tr, ren_eq, effK]
    exact ⟨Nat.zero_le _, rfl, by simp [runI_len]⟩
  rintro k st _ ⟨hk, f8, f7, f1, f2, m24⟩
  have hk1 := effK_ok hp hw k hk
  have hef : effK n mv w (k + 1) = compI (effK n mv w k) (letP mv (w.getD k 0)) := rfl
  by_cases hlt : k < w.length
  · have hx := hw.2 _ (mem_getD w k 0 hlt)
    have hlo := letP_ok hp hx
    have hl : (effK n mv w (k + 1)).length = (effK n mv w k).length := by rw [hef, compI_len]
    have hl20 := hk1.2.1.2
    have hq := scompose (effK n mv w k) (letP mv (w.getD k 0)) (by omega) (fun y hy => by have := hk1.2.2.1 y hy; have := hk1.1; have := hlo.1; omega)
    rw [cp_comp, ← hef] at hq
    rcases sLetter n mv (w.getD k 0) hp hx with ha | ha
    · simp -dsimp -implicitDefEqProofs (disch := first | omega | (simp only [lenr]; done) | (simp only [lenr]; omega)) only [↓amPre, amAll, ↓reduceIte, reduceCtorEq, Nat.reduceEqDiff, Nat.reduceBEq, Nat.reduceAdd, Nat.reduceLeDiff, Nat.reduceSub, Nat.reduceMul, Int.reduceToNat, List.size_toArray, tyF, MM, bu0, ipure, kpure, tpure, sspure, kset, tset, ksnoc, tsnoc, Kind.av, Twist.sl, Twist.tr, Invar.av, stsize, stget, sttl, stapp, stext, tsspure, Model.sl, Model.tr, vset, vsnoc, vpure, Puzz.sl, Puzz.tr, f8, f7, f1, f2, m24]
      refine callP_of (ha) ?_
      simp -dsimp -implicitDefEqProofs (disch := first | omega | (simp only [lenr]; done) | (simp only [lenr]; omega)) only [↓amPre, amAll, ↓reduceIte, reduceCtorEq, Nat.reduceEqDiff, Nat.reduceBEq, Nat.reduceAdd, Nat.reduceLeDiff, Nat.reduceSub, Nat.reduceMul, Int.reduceToNat, List.size_toArray, tyF, MM, bu0, ipure, kpure, tpure, sspure, kset, tset, ksnoc, tsnoc, Kind.av, Twist.sl, Twist.tr, Invar.av, stsize, stget, sttl, stapp, stext, tsspure, Model.sl, Model.tr, vset, vsnoc, vpure, Puzz.sl, Puzz.tr, f8, f7, f1, f2, m24]
      refine callP_of (hq) ?_
      simp -dsimp -implicitDefEqProofs (disch := first | omega | (simp only [lenr]; done) | (simp only [lenr]; omega)) only [↓amPre, amAll, ↓reduceIte, reduceCtorEq, Nat.reduceEqDiff, Nat.reduceBEq, Nat.reduceAdd, Nat.reduceLeDiff, Nat.reduceSub, Nat.reduceMul, Int.reduceToNat, List.size_toArray, tyF, MM, bu0, ipure, kpure, tpure, sspure, kset, tset, ksnoc, tsnoc, Kind.av, Twist.sl, Twist.tr, Invar.av, stsize, stget, sttl, stapp, stext, tsspure, Model.sl, Model.tr, vset, vsnoc, vpure, Puzz.sl, Puzz.tr, f8, f7, f1, f2, m24, hl]
      repeat' (first | omega | rfl | exact i64c (by omega) | exact vic (by omega) | apply And.intro)
    · simp -dsimp -implicitDefEqProofs (disch := first | omega | (simp only [lenr]; done) | (simp only [lenr]; omega)) only [↓amPre, amAll, ↓reduceIte, reduceCtorEq, Nat.reduceEqDiff, Nat.reduceBEq, Nat.reduceAdd, Nat.reduceLeDiff, Nat.reduceSub, Nat.reduceMul, Int.reduceToNat, List.size_toArray, tyF, MM, bu0, ipure, kpure, tpure, sspure, kset, tset, ksnoc, tsnoc, Kind.av, Twist.sl, Twist.tr, Invar.av, stsize, stget, sttl, stapp, stext, tsspure, Model.sl, Model.tr, vset, vsnoc, vpure, Puzz.sl, Puzz.tr, f8, f7, f1, f2, m24]
      refine callP_of (ha) ?_
      simp -dsimp -implicitDefEqProofs (disch := first | omega | (simp only [lenr]; done) | (simp only [lenr]; omega)) only [↓amPre, amAll, ↓reduceIte, reduceCtorEq, Nat.reduceEqDiff, Nat.reduceBEq, Nat.reduceAdd, Nat.reduceLeDiff, Nat.reduceSub, Nat.reduceMul, Int.reduceToNat, List.size_toArray, tyF, MM, bu0, ipure, kpure, tpure, sspure, kset, tset, ksnoc, tsnoc, Kind.av, Twist.sl, Twist.tr, Invar.av, stsize, stget, sttl, stapp, stext, tsspure, Model.sl, Model.tr, vset, vsnoc, vpure, Puzz.sl, Puzz.tr, f8, f7, f1, f2, m24]
      refine callP_of (hq) ?_
      simp -dsimp -implicitDefEqProofs (disch := first | omega | (simp only [lenr]; done) | (simp only [lenr]; omega)) only [↓amPre, amAll, ↓reduceIte, reduceCtorEq, Nat.reduceEqDiff, Nat.reduceBEq, Nat.reduceAdd, Nat.reduceLeDiff, Nat.reduceSub, Nat.reduceMul, Int.reduceToNat, List.size_toArray, tyF, MM, bu0, ipure, kpure, tpure, sspure, kset, tset, ksnoc, tsnoc, Kind.av, Twist.sl, Twist.tr, Invar.av, stsize, stget, sttl, stapp, stext, tsspure, Model.sl, Model.tr, vset, vsnoc, vpure, Puzz.sl, Puzz.tr, f8, f7, f1, f2, m24, hl]
      repeat' (first | omega | rfl | exact i64c (by omega) | exact vic (by omega) | apply And.intro)
  · have hke : k = w.length := by omega
    subst hke
    simp -dsimp -implicitDefEqProofs (disch := first | omega | (simp only [lenr]; done) | (simp only [lenr]; omega)) only [↓amPre, amAll, ↓reduceIte, reduceCtorEq, Nat.reduceEqDiff, Nat.reduceBEq, Nat.reduceAdd, Nat.reduceLeDiff, Nat.reduceSub, Nat.reduceMul, Int.reduceToNat, List.size_toArray, tyF, MM, bu0, ipure, kpure, tpure, sspure, kset, tset, ksnoc, tsnoc, Kind.av, Twist.sl, Twist.tr, Invar.av, stsize, stget, sttl, stapp, stext, tsspure, Model.sl, Model.tr, vset, vsnoc, vpure, Puzz.sl, Puzz.tr, f8, f7, f1, f2, m24]
def pwK (p : List Int) (k i : Nat) : List Int := (List.range i).map fun x => ((itN (fOf p) k x : Nat) : Int)
theorem sPermOf (n : Nat) (s : List Int) (hs : moveOk n s) : SpecAt Try.prog 187 [.i64 n, isl s] (.bl true) := by
  have h20 := hs.2.1.2
  have q1 := sIsPerm s (by omega)
  rw [decide_eq_true hs.2] at q1
  have hl := hs.1
  refine spec_of_awp (M := MM) (np := 2) (fz := true) mixed Try.func187 rfl rfl (by decide) rfl (Nat.le_refl _) (by decide +kernel) (.inr ⟨rfl, rfl⟩) trivial ?_
  simp -dsimp -implicitDefEqProofs (disch := first | omega | (simp only [lenr]; done) | (simp only [lenr]; omega)) only [↓amPre, amAll, ↓reduceIte, reduceCtorEq, Nat.reduceEqDiff, Nat.reduceBEq, Nat.reduceAdd, Nat.reduceLeDiff, Nat.reduceSub, Nat.reduceMul, Int.reduceToNat, List.size_toArray, tyF, MM, bu0, ipure, kpure, tpure, sspure, kset, tset, ksnoc, tsnoc, Kind.av, Twist.sl, Twist.tr, Invar.av, stsize, stget, sttl, stapp, stext, tsspure, Model.sl, Model.tr, vset, vsnoc, vpure, Puzz.sl, Puzz.tr, hl]
  refine callP_of (q1) ?_
  simp -dsimp -implicitDefEqProofs (disch := first | omega | (simp only [lenr]; done) | (simp only [lenr]; omega)) only [↓amPre, amAll, ↓reduceIte, reduceCtorEq, Nat.reduceEqDiff, Nat.reduceBEq, Nat.reduceAdd, Nat.reduceLeDiff, Nat.reduceSub, Nat.reduceMul, Int.reduceToNat, List.size_toArray, tyF, MM, bu0, ipure, kpure, tpure, sspure, kset, tset, ksnoc, tsnoc, Kind.av, Twist.sl, Twist.tr, Invar.av, stsize, stget, sttl, stapp, stext, tsspure, Model.sl, Model.tr, vset, vsnoc, vpure, Puzz.sl, Puzz.tr]
end Go.AM
set_option maxRecDepth 8000
namespace Go.AM
open Go.Proofs
theorem comp_id {n : Nat} {s : List Int} (hs : isPerm s) (hl : s.length = n) : compI (runI 0 n) s = s := by
  refine ext_getD 0 (by rw [compI_len, runI_len, hl]) fun i hi => ?_
  rw [compI_len, runI_len] at hi
  rw [compI_get _ _ _ (by rw [runI_len]; exact hi), runI_get _ _ _ hi]
  congr 1; omega
theorem sIsState (p : Puzz) (s : List Int) (h : smallP p) (hp : puzzOk p) (hs : moveOk p.n s) : SpecAt Try.prog 101 [p.sl, isl s] (.bl true) := by
  have q1 := sPuzzle p h
  rw [decide_eq_true hp] at q1
  obtain ⟨pn, nm, mv⟩ := p
  have hn := hp.1.1
  simp only at hn hs ⊢
  obtain ⟨n, rfl⟩ : ∃ n : Nat, pn = n := ⟨pn.toNat, by omega⟩
  have q2 := sPermOf n s hs
  refine spec_of_awp (M := MM) (np := 2) (fz := true) mixed Try.func101 rfl rfl (by decide) rfl (Nat.le_refl _) (by decide +kernel) (.inr ⟨rfl, rfl⟩) trivial ?_
  simp -dsimp -implicitDefEqProofs (disch := first | omega | (simp only [lenr]; done) | (simp only [lenr]; omega)) only [↓amPre, amAll, ↓reduceIte, reduceCtorEq, Nat.reduceEqDiff, Nat.reduceBEq, Nat.reduceAdd, Nat.reduceLeDiff, Nat.reduceSub, Nat.reduceMul, Int.reduceToNat, List.size_toArray, tyF, MM, bu0, ipure, kpure, tpure, sspure, kset, tset, ksnoc, tsnoc, Kind.av, Twist.sl, Twist.tr, Invar.av, stsize, stget, sttl, stapp, stext, tsspure, Model.sl, Model.tr, vset, vsnoc, vpure, Puzz.sl, Puzz.tr]
  refine callP_of (q1) ?_
  simp -dsimp -implicitDefEqProofs (disch := first | omega | (simp only [lenr]; done) | (simp only [lenr]; omega)) only [↓amPre, amAll, ↓reduceIte, reduceCtorEq, Nat.reduceEqDiff, Nat.reduceBEq, Nat.reduceAdd, Nat.reduceLeDiff, Nat.reduceSub, Nat.reduceMul, Int.reduceToNat, List.size_toArray, tyF, MM, bu0, ipure, kpure, tpure, sspure, kset, tset, ksnoc, tsnoc, Kind.av, Twist.sl, Twist.tr, Invar.av, stsize, stget, sttl, stapp, stext, tsspure, Model.sl, Model.tr, vset, vsnoc, vpure, Puzz.sl, Puzz.tr]
  refine callP_of (q2) ?_
  simp -dsimp -implicitDefEqProofs (disch := first | omega | (simp only [lenr]; done) | (simp only [lenr]; omega)) only [↓amPre, amAll, ↓reduceIte, reduceCtorEq, Nat.reduceEqDiff, Nat.reduceBEq, Nat.reduceAdd, Nat.reduceLeDiff, Nat.reduceSub, Nat.reduceMul, Int.reduceToNat, List.size_toArray, tyF, MM, bu0, ipure, kpure, tpure, sspure, kset, tset, ksnoc, tsnoc, Kind.av, Twist.sl, Twist.tr, Invar.av, stsize, stget, sttl, stapp, stext, tsspure, Model.sl, Model.tr, vset, vsnoc, vpure, Puzz.sl, Puzz.tr]
theorem sApplyWord (p : Puzz) (s w : List Int) (h : smallP p) (hp : puzzOk p) (hs : moveOk p.n s) (hw : wordOk p.mv.length w) (hv : ∀ x ∈ w, intOk x) : SpecAt Try.prog 30 [p.sl, isl s, isl w] (.tup [itr (compI s (effK p.n p.mv w w.length)), .bl true]) := by
  have q1 := sIsState p s h hp hs
  have hw2 := hw.1
  have h20 := hs.2.1.2
  have hm8 := hp.1.2.1
  have q2 := sWordOf p.mv.length w (by unfold intOk; omega) (by omega) hv
  rw [decide_eq_true hw] at q2
  have hek := effK_ok hp.1 hw w.length (Nat.le_refl _)
  obtain ⟨pn, nm, mv⟩ := p
  have hn := hp.1.1
  simp only at hn hs hek hw q1 q2 ⊢
  obtain ⟨n, rfl⟩ : ∃ n : Nat, pn = n := ⟨pn.toNat, by omega⟩
  have q3 := sEvaluate n mv w hp.1 hw
  have q4 := scompose s (effK n mv w w.length) (by omega) (fun y hy => by have := hs.2.2.1 y hy; have := hs.1; have := hek.1; omega)
  rw [cp_comp] at q4
  generalize effK (n : Int) mv w w.length = X at q3 q4 hek
  generalize compI s X = Y at q4
  have hx := hek.2.1.2
  refine spec_of_awp (M := MM) (np := 3) (fz := false) mixed Try.func30 rfl rfl (by decide) rfl (Nat.le_refl _) (by decide +kernel) (.inl rfl) (by first | trivial | simp only [sigsOk_nil, sigsOk_some, sigsOk_none, sig_tr, sig_pt, sig_mt, sig_agg, List.map_cons, List.map_nil, sig1_tr, sig1_pt, sig1_v, and_self, true_and, List.length_map, List.length_set]) ?_
  simp -dsimp -implicitDefEqProofs (disch := first | omega | (simp only [lenr]; done) | (simp only [lenr]; omega)) only [↓amPre, amAll, ↓reduceIte, reduceCtorEq, Nat.reduceEqDiff, Nat.reduceBEq, Nat.reduceAdd, Nat.reduceLeDiff, Nat.reduceSub, Nat.reduceMul, Int.reduceToNat, List.size_toArray, tyF, MM, bu0, ipure, kpure, tpure, sspure, kset, tset, ksnoc, tsnoc, Kind.av, Twist.sl, Twist.tr, Invar.av, stsize, stget, sttl, stapp, stext, tsspure, Model.sl, Model.tr, vset, vsnoc, vpure, Puzz.sl, Puzz.tr]
  refine callP_of (q1) ?_
  simp -dsimp -implicitDefEqProofs (disch := first | omega | (simp only [lenr]; done) | (simp only [lenr]; omega)) only [↓amPre, amAll, ↓reduceIte, reduceCtorEq, Nat.reduceEqDiff, Nat.reduceBEq, Nat.reduceAdd, Nat.reduceLeDiff, Nat.reduceSub, Nat.reduceMul, Int.reduceToNat, List.size_toArray, tyF, MM, bu0, ipure, kpure, tpure, sspure, kset, tset, ksnoc, tsnoc, Kind.av, Twist.sl, Twist.tr, Invar.av, stsize, stget, sttl, stapp, stext, tsspure, Model.sl, Model.tr, vset, vsnoc, vpure, Puzz.sl, Puzz.tr]
  refine callP_of (q2) ?_
  simp -dsimp -implicitDefEqProofs (disch := first | omega | (simp only [lenr]; done) | (simp only [lenr]; omega)) only [↓amPre, amAll, ↓reduceIte, reduceCtorEq, Nat.reduceEqDiff, Nat.reduceBEq, Nat.reduceAdd, Nat.reduceLeDiff, Nat.reduceSub, Nat.reduceMul, Int.reduceToNat, List.size_toArray, tyF, MM, bu0, ipure, kpure, tpure, sspure, kset, tset, ksnoc, tsnoc, Kind.av, Twist.sl, Twist.tr, Invar.av, stsize, stget, sttl, stapp, stext, tsspure, Model.sl, Model.tr, vset, vsnoc, vpure, Puzz.sl, Puzz.tr]
  refine callP_of (q3) ?_
  simp -dsimp -implicitDefEqProofs (disch := first | omega | (simp only [lenr]; done) | (simp only [lenr]; omega)) only [↓amPre, amAll, ↓reduceIte, reduceCtorEq, Nat.reduceEqDiff, Nat.reduceBEq, Nat.reduceAdd, Nat.reduceLeDiff, Nat.reduceSub, Nat.reduceMul, Int.reduceToNat, List.size_toArray, tyF, MM, bu0, ipure, kpure, tpure, sspure, kset, tset, ksnoc, tsnoc, Kind.av, Twist.sl, Twist.tr, Invar.av, stsize, stget, sttl, stapp, stext, tsspure, Model.sl, Model.tr, vset, vsnoc, vpure, Puzz.sl, Puzz.tr]
  refine callP_of (q4) ?_
  simp -dsimp -implicitDefEqProofs (disch := first | omega | (simp only [lenr]; done) | (simp only [lenr]; omega)) only [↓amPre, amAll, ↓reduceIte, reduceCtorEq, Nat.reduceEqDiff, Nat.reduceBEq, Nat.reduceAdd, Nat.reduceLeDiff, Nat.reduceSub, Nat.reduceMul, Int.reduceToNat, List.size_toArray, tyF, MM, bu0, ipure, kpure, tpure, sspure, kset, tset, ksnoc, tsnoc, Kind.av, Twist.sl, Twist.tr, Invar.av, stsize, stget, sttl, stapp, stext, tsspure, Model.sl, Model.tr, vset, vsnoc, vpure, Puzz.sl, Puzz.tr]
def scrS (p : Puzz) (x c : Int) : List Int := if canScr p x c then effK p.n p.mv (scrR p x c) (scrR p x c).length else []
end Go.AM
namespace Go.AM
/-! keys of states: their bytes -/
def skey (s : List Int) : ByteArray := pushB s
def smallE (s : List Int) : Prop := ∀ x ∈ s, 0 ≤ x ∧ x < 256
open Classical in
noncomputable def seenM (S : List (List Int)) : Value → Option Value := fun v => if ∃ s ∈ S, v = .string (skey s) then some (.bool true) else none
def ixK (L : List (List Int)) (s : List Int) : Int := if s ∈ L then (L.idxOf s : Nat) else -1
end Go.AM
set_option maxRecDepth 8000
namespace Go.AM
open Go.Proofs
theorem keyB_str (s : ByteArray) : keyB true (.string s) = true := rfl
theorem keyB_int (n : Int) : keyB false (.int .i64 n) = true := rfl
end Go.AM
set_option maxRecDepth 8000
namespace Go.AM
open Go.Proofs
def MF : FuncId → List Bool := fun f => if f = 4294967295 then [true] else MM f
def cmpP (m : Model) : Puzz := ⟨facets m.ks, m.nm, m.mv.map (permOf m.ks)⟩
def cmpR (m : Model) : Puzz := if modelOk m then cmpP m else ⟨0, [], []⟩
theorem cmpP_small {m : Model} (h : modelOk m) : smallP (cmpP m) := by
  have h1 := facets_bound m.ks h.1.2.1
  have h2 := h.1.1.2
  have h3 := h.2.1.2
  have h4 := h.2.2.1
  refine ⟨by unfold intOk; simp only [cmpP]; omega, by simp only [cmpP]; omega, by simp only [cmpP, List.length_map]; omega, fun s hs => ?_⟩
  obtain ⟨t, ht, rfl⟩ := List.mem_map.1 hs
  have := permOf_le (h.2.2.2 t ht)
  omega
theorem cp_take (f : List Twist → List Int) (l : List (List Twist)) (k : Nat) (hk : k < l.length) : (l.take (k + 1)).map f = (l.take k).map f ++ [f (l.getD k default)] := by
  rw [take_succ_eq l k default hk, List.map_append]; rfl
theorem iCompile (m : Model) (h : smallM m) : SpecAt Try.prog 26 [m.sl] (.tup [(cmpR m).tr, .bl (decide (modelOk m))]) := by
  have q0 := iIsValidPieceModel m h
  by_cases c : modelOk m
  case neg =>
    have hR : cmpR m = ⟨0, [], []⟩ := if_neg c
    rw [decide_eq_false c] at q0
    rw [decide_eq_false c, hR]
    refine spec_of_awp (M := MM) (np := 1) (fz := false) mixed Try.func26 rfl rfl (by decide) rfl (Nat.le_refl _) (by decide +kernel) (.inl rfl) (by first | trivial | simp only [sigsOk_nil, sigsOk_some, sigsOk_none, sig_tr, sig_pt, sig_mt, sig_agg, List.map_cons, List.map_nil, sig1_tr, sig1_pt, sig1_v, and_self, true_and, List.length_map, List.length_set]) ?_
    simp -dsimp -implicitDefEqProofs (disch := first | omega | (simp only [lenr]; done) | (simp only [lenr]; omega)) only [↓amPre, amAll, ↓reduceIte, reduceCtorEq, Nat.reduceEqDiff, Nat.reduceBEq, Nat.reduceAdd, Nat.reduceLeDiff, Nat.reduceSub, Nat.reduceMul, Int.reduceToNat, List.size_toArray, tyF, MM, bu0, ipure, kpure, tpure, sspure, kset, tset, ksnoc, tsnoc, Kind.av, Twist.sl, Twist.tr, Invar.av, stsize, stget, sttl, stapp, stext, tsspure, Model.sl, Model.tr, vset, vsnoc, vpure, Puzz.sl, Puzz.tr, keyB_str, keyB_int, MF]
    refine callP_of (q0) ?_
    simp -dsimp -implicitDefEqProofs (disch := first | omega | (simp only [lenr]; done) | (simp only [lenr]; omega)) only [↓amPre, amAll, ↓reduceIte, reduceCtorEq, Nat.reduceEqDiff, Nat.reduceBEq, Nat.reduceAdd, Nat.reduceLeDiff, Nat.reduceSub, Nat.reduceMul, Int.reduceToNat, List.size_toArray, tyF, MM, bu0, ipure, kpure, tpure, sspure, kset, tset, ksnoc, tsnoc, Kind.av, Twist.sl, Twist.tr, Invar.av, stsize, stget, sttl, stapp, stext, tsspure, Model.sl, Model.tr, vset, vsnoc, vpure, Puzz.sl, Puzz.tr, keyB_str, keyB_int, MF]
  have hR : cmpR m = cmpP m := if_pos c
  have hl3 := c.1.1.2
  have hl8 := c.2.1.2
  have hfc : fcI m.ks = facets m.ks := if_pos c.1.2.1
  have q1 := ifaceletCount m.ks (by omega)
  rw [hfc] at q1
  rw [decide_eq_true c] at q0
  rw [decide_eq_true c, hR]
  refine spec_of_awp (M := MM) (np := 1) (fz := false) mixed Try.func26 rfl rfl (by decide) rfl (Nat.le_refl _) (by decide +kernel) (.inl rfl) (by first | trivial | simp only [sigsOk_nil, sigsOk_some, sigsOk_none, sig_tr, sig_pt, sig_mt, sig_agg, List.map_cons, List.map_nil, sig1_tr, sig1_pt, sig1_v, and_self, true_and, List.length_map, List.length_set]) ?_
  simp -dsimp -implicitDefEqProofs (disch := first | omega | (simp only [lenr]; done) | (simp only [lenr]; omega)) only [↓amPre, amAll, ↓reduceIte, reduceCtorEq, Nat.reduceEqDiff, Nat.reduceBEq, Nat.reduceAdd, Nat.reduceLeDiff, Nat.reduceSub, Nat.reduceMul, Int.reduceToNat, List.size_toArray, tyF, MM, bu0, ipure, kpure, tpure, sspure, kset, tset, ksnoc, tsnoc, Kind.av, Twist.sl, Twist.tr, Invar.av, stsize, stget, sttl, stapp, stext, tsspure, Model.sl, Model.tr, vset, vsnoc, vpure, Puzz.sl, Puzz.tr, keyB_str, keyB_int, MF]
  refine callP_of (q0) ?_
  simp -dsimp -implicitDefEqProofs (disch := first | omega | (simp only [lenr]; done) | (simp only [lenr]; omega)) only [↓amPre, amAll, ↓reduceIte, reduceCtorEq, Nat.reduceEqDiff, Nat.reduceBEq, Nat.reduceAdd, Nat.reduceLeDiff, Nat.reduceSub, Nat.reduceMul, Int.reduceToNat, List.size_toArray, tyF, MM, bu0, ipure, kpure, tpure, sspure, kset, tset, ksnoc, tsnoc, Kind.av, Twist.sl, Twist.tr, Invar.av, stsize, stget, sttl, stapp, stext, tsspure, Model.sl, Model.tr, vset, vsnoc, vpure, Puzz.sl, Puzz.tr, keyB_str, keyB_int, MF]
  refine callP_of (q1) ?_
  simp -dsimp -implicitDefEqProofs (disch := first | omega | (simp only [lenr]; done) | (simp only [lenr]; omega)) only [↓amPre, amAll, ↓reduceIte, reduceCtorEq, Nat.reduceEqDiff, Nat.reduceBEq, Nat.reduceAdd, Nat.reduceLeDiff, Nat.reduceSub, Nat.reduceMul, Int.reduceToNat, List.size_toArray, tyF, MM, bu0, ipure, kpure, tpure, sspure, kset, tset, ksnoc, tsnoc, Kind.av, Twist.sl, Twist.tr, Invar.av, stsize, stget, sttl, stapp, stext, tsspure, Model.sl, Model.tr, vset, vsnoc, vpure, Puzz.sl, Puzz.tr, keyB_str, keyB_int, MF]
  refine awp_loopC 4 2 3 1 [.i64 (facets m.ks), .st m.nm, .nilsl] (by simp -dsimp -implicitDefEqProofs (disch := first | omega | (simp only [lenr]; done) | (simp only [lenr]; omega)) only [↓amPre, amAll, ↓reduceIte, reduceCtorEq, Nat.reduceEqDiff, Nat.reduceBEq, Nat.reduceAdd, Nat.reduceLeDiff, Nat.reduceSub, Nat.reduceMul, Int.reduceToNat, List.size_toArray, tyF, MM, bu0, ipure, kpure, tpure, sspure, kset, tset, ksnoc, tsnoc, Kind.av, Twist.sl, Twist.tr, Invar.av, stsize, stget, sttl, stapp, stext, tsspure, Model.sl, Model.tr, vset, vsnoc, vpure, Puzz.sl, Puzz.tr, keyB_str, keyB_int, MF]) (by simp) (by simp) (fun k st => k ≤ m.mv.length ∧ st.fr 20 = .i64 k ∧ st.fr 19 = .i64 m.mv.length ∧ st.fr 18 = tssl m.mv ∧ st.fr 1 = .loc 1 [] 0 0 ∧ st.fr 4 = .loc 4 [] 0 0 ∧ st.fr 2 = .loc 2 [] 0 0 ∧ st.mem 1 = some (.pt 3 (.agg [ksl m.ks, .st m.nm, tssl m.mv])) ∧ st.mem 4 = some (.pt 3 (.agg [.i64 (facets m.ks), .st m.nm, sst ((m.mv.take k).map (permOf m.ks))])) ∧ st.mem 2 = some (.pt 3 (.agg [.i64 0, .st [], .nilsl]))) (m.mv.length) ?_ ?_
  · simp -dsimp -implicitDefEqProofs (disch := first | omega | (simp only [lenr]; done) | (simp only [lenr]; omega)) only [↓amPre, amAll, ↓reduceIte, reduceCtorEq, Nat.reduceEqDiff, Nat.reduceBEq, Nat.reduceAdd, Nat.reduceLeDiff, Nat.reduceSub, Nat.reduceMul, Int.reduceToNat, List.size_toArray, tyF, MM, bu0, ipure, kpure, tpure, sspure, kset, tset, ksnoc, tsnoc, Kind.av, Twist.sl, Twist.tr, Invar.av, stsize, stget, sttl, stapp, stext, tsspure, Model.sl, Model.tr, vset, vsnoc, vpure, Puzz.sl, Puzz.tr, keyB_str, keyB_int, MF, nilC_eq]
    simp
  rintro k st _ ⟨hk, f20, f19, f18, f1, f4, f2, m1, m4, m2⟩
  by_cases hlt : k < m.mv.length
  · have ps := c.2.2.2 _ (mem_getD m.mv k default hlt)
    have hts := cp_take (permOf m.ks) m.mv k hlt
    have hle : ((m.mv.take k).map (permOf m.ks)).length = k := by simp; omega
    have hle1 : (m.mv.take (k + 1)).length = k + 1 := by simp; omega
    have h8 := c.2.2.1
    have q2 := ipiecesToPerm m.ks (m.mv.getD k default) ps
    generalize (m.mv.take k).map (permOf m.ks) = L at *
    simp -dsimp -implicitDefEqProofs (disch := first | omega | (simp only [lenr]; done) | (simp only [lenr]; omega)) only [↓amPre, amAll, ↓reduceIte, reduceCtorEq, Nat.reduceEqDiff, Nat.reduceBEq, Nat.reduceAdd, Nat.reduceLeDiff, Nat.reduceSub, Nat.reduceMul, Int.reduceToNat, List.size_toArray, tyF, MM, bu0, ipure, kpure, tpure, sspure, kset, tset, ksnoc, tsnoc, Kind.av, Twist.sl, Twist.tr, Invar.av, stsize, stget, sttl, stapp, stext, tsspure, Model.sl, Model.tr, vset, vsnoc, vpure, Puzz.sl, Puzz.tr, keyB_str, keyB_int, MF, f20, f19, f18, f1, f4, f2, m1, m4, m2]
    refine callP_of (q2) ?_
    simp -dsimp -implicitDefEqProofs (disch := first | omega | (simp only [lenr]; done) | (simp only [lenr]; omega)) only [↓amPre, amAll, ↓reduceIte, reduceCtorEq, Nat.reduceEqDiff, Nat.reduceBEq, Nat.reduceAdd, Nat.reduceLeDiff, Nat.reduceSub, Nat.reduceMul, Int.reduceToNat, List.size_toArray, tyF, MM, bu0, ipure, kpure, tpure, sspure, kset, tset, ksnoc, tsnoc, Kind.av, Twist.sl, Twist.tr, Invar.av, stsize, stget, sttl, stapp, stext, tsspure, Model.sl, Model.tr, vset, vsnoc, vpure, Puzz.sl, Puzz.tr, keyB_str, keyB_int, MF, f20, f19, f18, f1, f4, f2, m1, m4, m2, ← hts, hle, hle1]
    repeat' (first | omega | rfl | exact i64c (by omega) | exact vic (by omega) | apply And.intro)
  · have hke : k = m.mv.length := by omega
    subst hke
    rw [List.take_length] at m4
    simp -dsimp -implicitDefEqProofs (disch := first | omega | (simp only [lenr]; done) | (simp only [lenr]; omega)) only [↓amPre, amAll, ↓reduceIte, reduceCtorEq, Nat.reduceEqDiff, Nat.reduceBEq, Nat.reduceAdd, Nat.reduceLeDiff, Nat.reduceSub, Nat.reduceMul, Int.reduceToNat, List.size_toArray, tyF, MM, bu0, ipure, kpure, tpure, sspure, kset, tset, ksnoc, tsnoc, Kind.av, Twist.sl, Twist.tr, Invar.av, stsize, stget, sttl, stapp, stext, tsspure, Model.sl, Model.tr, vset, vsnoc, vpure, Puzz.sl, Puzz.tr, keyB_str, keyB_int, MF, f20, f19, f18, f1, f4, f2, m1, m4, m2, cmpP]
end Go.AM
set_option maxRecDepth 8000
namespace Go.AM
namespace Draws
open Go.Proofs
noncomputable def byK (s : Src) (o : Int) : Nat → Src × List Int
  | 0 => (s, [])
  | k + 1 => (bS (byK s o k).1 o, (byK s o k).2 ++ [bX (byK s o k).1 o])
theorem byK_ok (s : Src) (o : Int) (h : s.ok) (ho : intOk o) : ∀ k, (byK s o k).1.ok ∧ (byK s o k).2.length = k
  | 0 => ⟨h, rfl⟩
  | k + 1 => by
    have ih := byK_ok s o h ho k
    exact ⟨(belowF _ o ih.1 ho).2.1, by simp only [byK, List.length_append, List.length_singleton, ih.2]⟩
noncomputable def dsK (s : Src) (ks : List Kind) : Nat → Src × List Twist
  | 0 => (s, [])
  | k + 1 => ((byK (ordK (dsK s ks k).1 (ks.getD k default).c.toNat).1 (ks.getD k default).o (ks.getD k default).c.toNat).1, (dsK s ks k).2 ++ [⟨(ordK (dsK s ks k).1 (ks.getD k default).c.toNat).2, (byK (ordK (dsK s ks k).1 (ks.getD k default).c.toNat).1 (ks.getD k default).o (ks.getD k default).c.toNat).2⟩])
theorem dsK_ok (s : Src) (ks : List Kind) (h : s.ok) (hk : kindsOk ks) : ∀ k, k ≤ ks.length → (dsK s ks k).1.ok ∧ (dsK s ks k).2.length = k
  | 0, _ => ⟨h, rfl⟩
  | k + 1, hlt => by
    have ih := dsK_ok s ks h hk k (by omega)
    obtain ⟨c1, c2, o1, o2, _⟩ := kindsOk_kind hk (mem_getD ks k default (by omega))
    have h1 := ordK_ok (dsK s ks k).1 ih.1 (ks.getD k default).c.toNat (by omega)
    exact ⟨(byK_ok _ _ h1.1 (by unfold intOk; omega) _).1, by simp only [dsK, List.length_append, List.length_singleton, ih.2]⟩
theorem drawState (s : Src) (ks : List Kind) (h : s.ok) (hkk : kindsOk ks) : SpecX Try.prog 162 [s.pt, ktr ks] [some (dsK s ks ks.length).1.pt, some (ktr ks)] (ttr (dsK s ks ks.length).2) := by
  have hl3 := hkk.1.2
  refine spec_of_awp_any (M := MM) (np := 2) (X := [9]) (fz := false) mixed Try.func162 rfl rfl (by decide) rfl (Nat.le_refl _) (by decide +kernel) (.inl rfl) (by simp only [sigsOk_some, sigsOk_nil, and_true]; rfl) ?_
  simp -dsimp -implicitDefEqProofs (disch := first | omega | (simp only [lenr]; done) | (simp only [lenr]; omega)) only [↓amPre, amAll, ↓reduceIte, reduceCtorEq, Nat.reduceEqDiff, Nat.reduceBEq, Nat.reduceAdd, Nat.reduceLeDiff, Nat.reduceSub, Nat.reduceMul, Int.reduceToNat, List.size_toArray, tyF, MM, bu0, ipure, kpure, tpure, sspure, kset, tset, ksnoc, tsnoc, Kind.av, Twist.sl, Twist.tr, Invar.av]
  refine awp_loopR 9 48 (.tr 2 []) (by simp -dsimp -implicitDefEqProofs (disch := first | omega | (simp only [lenr]; done) | (simp only [lenr]; omega)) only [↓amPre, amAll, ↓reduceIte, reduceCtorEq, Nat.reduceEqDiff, Nat.reduceBEq, Nat.reduceAdd, Nat.reduceLeDiff, Nat.reduceSub, Nat.reduceMul, Int.reduceToNat, List.size_toArray, tyF, MM, bu0, ipure, kpure, tpure, sspure, kset, tset, ksnoc, tsnoc, Kind.av, Twist.sl, Twist.tr, Invar.av]) (by decide) (by decide) (by decide) (fun k st => k ≤ ks.length ∧ st.fr 6 = .i64 k ∧ st.fr 1 = .ref 1 [] 2 0 ks.length ∧ st.fr 5 = .ref 48 [] 2 0 k ∧ st.fr 0 = .loc 0 [] 0 0 ∧ st.mem 48 = some (ttr (dsK s ks k).2) ∧ st.mem 0 = some ((dsK s ks k).1.pt) ∧ st.mem 1 = some (ktr ks)) (ks.length) ?_ ?_
  · simp -dsimp -implicitDefEqProofs (disch := first | omega | (simp only [lenr]; done) | (simp only [lenr]; omega)) only [↓amPre, amAll, ↓reduceIte, reduceCtorEq, Nat.reduceEqDiff, Nat.reduceBEq, Nat.reduceAdd, Nat.reduceLeDiff, Nat.reduceSub, Nat.reduceMul, Int.reduceToNat, List.size_toArray, tyF, MM, bu0, ipure, kpure, tpure, sspure, kset, tset, ksnoc, tsnoc, Kind.av, Twist.sl, Twist.tr, Invar.av, ren_eq]
    simp [dsK]
  rintro k st _ ⟨hk, f6, f1, f5, f0, m48, m0, m1⟩
  have ho := dsK_ok s ks h hkk k (by omega)
  have hds : dsK s ks (k + 1) = _ := rfl
  conv at hds => rhs; rw [dsK]
  by_cases hlt : k < ks.length
  · obtain ⟨c1, c2, o1, o2, _⟩ := kindsOk_kind hkk (mem_getD ks k default hlt)
    obtain ⟨c, hc⟩ : ∃ c : Nat, (ks.getD k default).c = c := ⟨(ks.getD k default).c.toNat, by omega⟩
    rw [hc, Int.toNat_natCast] at hds
    have hor := ordK_ok (dsK s ks k).1 ho.1 c (by omega)
    have hdo := drawOrder (dsK s ks k).1 c ho.1 (by omega)
    have hby := byK_ok (ordK (dsK s ks k).1 c).1 (ks.getD k default).o hor.1 (by unfold intOk; omega)
    generalize hT : (dsK s ks k).2 = T at hds ho m48
    generalize hS : (dsK s ks k).1 = S at hds ho m0 hdo hor hby
    generalize hS1 : (ordK S c).1 = S1 at hds hdo hor hby
    generalize hL : (ordK S c).2 = L at hds hdo hor
    simp -dsimp -implicitDefEqProofs (disch := first | omega | (simp only [lenr]; done) | (simp only [lenr]; omega)) only [↓amPre, amAll, ↓reduceIte, reduceCtorEq, Nat.reduceEqDiff, Nat.reduceBEq, Nat.reduceAdd, Nat.reduceLeDiff, Nat.reduceSub, Nat.reduceMul, Int.reduceToNat, List.size_toArray, tyF, MM, bu0, ipure, kpure, tpure, sspure, kset, tset, ksnoc, tsnoc, Kind.av, Twist.sl, Twist.tr, Invar.av, f6, f1, f5, f0, m48, m0, m1, hc, ho.2]
    refine callX_of (hdo) ?_
    simp -dsimp -implicitDefEqProofs (disch := first | omega | (simp only [lenr]; done) | (simp only [lenr]; omega)) only [↓amPre, amAll, ↓reduceIte, reduceCtorEq, Nat.reduceEqDiff, Nat.reduceBEq, Nat.reduceAdd, Nat.reduceLeDiff, Nat.reduceSub, Nat.reduceMul, Int.reduceToNat, List.size_toArray, tyF, MM, bu0, ipure, kpure, tpure, sspure, kset, tset, ksnoc, tsnoc, Kind.av, Twist.sl, Twist.tr, Invar.av, f6, f1, f5, f0, m48, m0, m1, hc, ho.2]
    refine awp_loopC 7 1 2 1 [itr L, .nilsl] (by simp -dsimp -implicitDefEqProofs (disch := first | omega | (simp only [lenr]; done) | (simp only [lenr]; omega)) only [↓amPre, amAll, ↓reduceIte, reduceCtorEq, Nat.reduceEqDiff, Nat.reduceBEq, Nat.reduceAdd, Nat.reduceLeDiff, Nat.reduceSub, Nat.reduceMul, Int.reduceToNat, List.size_toArray, tyF, MM, bu0, ipure, kpure, tpure, sspure, kset, tset, ksnoc, tsnoc, Kind.av, Twist.sl, Twist.tr, Invar.av, f6, f1, f5, f0, m48, m0, m1]) (by simp) (by simp) (fun i st => i ≤ c ∧ st.fr 8 = .i64 i ∧ st.fr 7 = .loc 7 [] 0 0 ∧ st.fr 6 = .i64 k ∧ st.fr 1 = .ref 1 [] 2 0 ks.length ∧ st.fr 5 = .ref 48 [] 2 0 k ∧ st.fr 0 = .loc 0 [] 0 0 ∧ st.mem 48 = some (ttr T) ∧ st.mem 7 = some (.pt 2 (.agg [itr L, itr (byK S1 (ks.getD k default).o i).2])) ∧ st.mem 0 = some ((byK S1 (ks.getD k default).o i).1.pt) ∧ st.mem 1 = some (ktr ks)) (c) ?_ ?_
    · simp -dsimp -implicitDefEqProofs (disch := first | omega | (simp only [lenr]; done) | (simp only [lenr]; omega)) only [↓amPre, amAll, ↓reduceIte, reduceCtorEq, Nat.reduceEqDiff, Nat.reduceBEq, Nat.reduceAdd, Nat.reduceLeDiff, Nat.reduceSub, Nat.reduceMul, Int.reduceToNat, List.size_toArray, tyF, MM, bu0, ipure, kpure, tpure, sspure, kset, tset, ksnoc, tsnoc, Kind.av, Twist.sl, Twist.tr, Invar.av, nilC_eq, f6, f1, f5, f0, m48, m0, m1]
      simp [byK]
    rintro i st _ ⟨hi, f8, f7, f6, f1, f5, f0, m48, m7, m0, m1⟩
    have hbi := hby i
    have hb1 : byK S1 (ks.getD k default).o (i + 1) = _ := rfl
    conv at hb1 => rhs; rw [byK]
    by_cases hlt' : i < c
    · have hbf := belowF (byK S1 (ks.getD k default).o i).1 (ks.getD k default).o hbi.1 (by unfold intOk; omega)
      generalize bS (byK S1 (ks.getD k default).o i).1 (ks.getD k default).o = S2 at hb1 hbf
      generalize bX (byK S1 (ks.getD k default).o i).1 (ks.getD k default).o = x at hb1 hbf
      have hlen : (byK S1 (ks.getD k default).o i).2.length ≤ 1099511627775 := by omega
      simp -dsimp -implicitDefEqProofs (disch := first | omega | (simp only [lenr]; done) | (simp only [lenr]; omega)) only [↓amPre, amAll, ↓reduceIte, reduceCtorEq, Nat.reduceEqDiff, Nat.reduceBEq, Nat.reduceAdd, Nat.reduceLeDiff, Nat.reduceSub, Nat.reduceMul, Int.reduceToNat, List.size_toArray, tyF, MM, bu0, ipure, kpure, tpure, sspure, kset, tset, ksnoc, tsnoc, Kind.av, Twist.sl, Twist.tr, Invar.av, f8, f7, f6, f1, f5, f0, m48, m7, m0, m1, hc, hbi.2]
      refine piv_go 10 8 0 (by decide +kernel) ?_
      simp -dsimp -implicitDefEqProofs (disch := first | omega | (simp only [lenr]; done) | (simp only [lenr]; omega)) only [↓amPre, amAll, ↓reduceIte, reduceCtorEq, Nat.reduceEqDiff, Nat.reduceBEq, Nat.reduceAdd, Nat.reduceLeDiff, Nat.reduceSub, Nat.reduceMul, Int.reduceToNat, List.size_toArray, tyF, MM, bu0, ipure, kpure, tpure, sspure, kset, tset, ksnoc, tsnoc, Kind.av, Twist.sl, Twist.tr, Invar.av, f8, f7, f6, f1, f5, f0, m48, m7, m0, m1, hc, hbi.2]
      refine pvX_of (hbf.1) ?_
      simp -dsimp -implicitDefEqProofs (disch := first | omega | (simp only [lenr]; done) | (simp only [lenr]; omega)) only [↓amPre, amAll, ↓reduceIte, reduceCtorEq, Nat.reduceEqDiff, Nat.reduceBEq, Nat.reduceAdd, Nat.reduceLeDiff, Nat.reduceSub, Nat.reduceMul, Int.reduceToNat, List.size_toArray, tyF, MM, bu0, ipure, kpure, tpure, sspure, kset, tset, ksnoc, tsnoc, Kind.av, Twist.sl, Twist.tr, Invar.av, f8, f7, f6, f1, f5, f0, m48, m7, m0, m1, hc, hbi.2, hb1]
      repeat' (first | omega | rfl | exact i64c (by omega) | exact vic (by omega) | apply And.intro)
    · have hie : i = c := by omega
      subst hie
      simp -dsimp -implicitDefEqProofs (disch := first | omega | (simp only [lenr]; done) | (simp only [lenr]; omega)) only [↓amPre, amAll, ↓reduceIte, reduceCtorEq, Nat.reduceEqDiff, Nat.reduceBEq, Nat.reduceAdd, Nat.reduceLeDiff, Nat.reduceSub, Nat.reduceMul, Int.reduceToNat, List.size_toArray, tyF, MM, bu0, ipure, kpure, tpure, sspure, kset, tset, ksnoc, tsnoc, Kind.av, Twist.sl, Twist.tr, Invar.av, f8, f7, f6, f1, f5, f0, m48, m7, m0, m1, hc, ho.2, hds]
      repeat' (first | omega | rfl | exact i64c (by omega) | exact vic (by omega) | apply And.intro)
  · have hke : k = ks.length := by omega
    subst hke
    simp -dsimp -implicitDefEqProofs (disch := first | omega | (simp only [lenr]; done) | (simp only [lenr]; omega)) only [↓amPre, amAll, ↓reduceIte, reduceCtorEq, Nat.reduceEqDiff, Nat.reduceBEq, Nat.reduceAdd, Nat.reduceLeDiff, Nat.reduceSub, Nat.reduceMul, Int.reduceToNat, List.size_toArray, tyF, MM, bu0, ipure, kpure, tpure, sspure, kset, tset, ksnoc, tsnoc, Kind.av, Twist.sl, Twist.tr, Invar.av, f6, f1, f5, f0, m48, m0, m1, ho.2]
end Draws
end Go.AM
set_option maxRecDepth 8000
namespace Go.AM
namespace Draws
open Go.Proofs
theorem getD_snoc {α : Type} (l : List α) (x : α) (i : Nat) (d : α) : (l ++ [x]).getD i d = if i < l.length then l.getD i d else if i = l.length then x else d := by
  simp only [List.getD, List.getElem?_append]
  by_cases h : i < l.length
  · simp [h]
  · by_cases h2 : i = l.length
    · subst h2; simp
    · have h3 : i - l.length ≠ 0 := by omega
      simp [h, h2]
      rw [List.getElem?_eq_none (by simp; omega)]; rfl
theorem dsK_get (s : Src) (ks : List Kind) (h : s.ok) (hk : kindsOk ks) : ∀ k, k ≤ ks.length → ∀ i, i < k → ((dsK s ks k).2.getD i default).to.length = (ks.getD i default).c.toNat ∧ ((dsK s ks k).2.getD i default).by'.length = (ks.getD i default).c.toNat
  | 0, _, i, hi => by omega
  | k + 1, hlt, i, hi => by
    have ih := dsK_ok s ks h hk k (by omega)
    rw [dsK]
    simp only
    rw [getD_snoc, ih.2]
    obtain ⟨c1, c2, o1, o2, _⟩ := kindsOk_kind hk (mem_getD ks k default (by omega))
    by_cases h1 : i < k
    · rw [if_pos h1]; exact dsK_get s ks h hk k (by omega) i h1
    · have h2 : i = k := by omega
      subst h2
      rw [if_neg (by omega), if_pos rfl]
      have h3 := ordK_ok (dsK s ks i).1 ih.1 (ks.getD i default).c.toNat (by omega)
      exact ⟨h3.2, (byK_ok _ _ h3.1 (by unfold intOk; omega) _).2⟩
def anyOk (ks : List Kind) (tw : List Twist) : Prop := ks.length ≤ 5 ∧ fewT tw
theorem list_cons {α : Type} : ∀ (l : List α), 1 ≤ l.length → ∃ a r, l = a :: r
  | a :: r, _ => ⟨a, r, rfl⟩
end Draws
end Go.AM
set_option maxRecDepth 8000
namespace Go.AM
namespace Draws
open Go.Proofs
noncomputable def mdK (s : Src) (ks : List Kind) : Nat → Src × List (List Twist)
  | 0 => (s, [])
  | k + 1 => ((dsK (mdK s ks k).1 ks ks.length).1, (mdK s ks k).2 ++ [(dsK (mdK s ks k).1 ks ks.length).2])
def twOk (ks : List Kind) (tw : List Twist) : Prop := tw.length = ks.length ∧ ∀ i, i < ks.length → (tw.getD i default).to.length = (ks.getD i default).c.toNat ∧ (tw.getD i default).by'.length = (ks.getD i default).c.toNat
theorem mdK_ok (s : Src) (ks : List Kind) (h : s.ok) (hk : kindsOk ks) : ∀ k, (mdK s ks k).1.ok ∧ (mdK s ks k).2.length = k ∧ ∀ tw ∈ (mdK s ks k).2, twOk ks tw
  | 0 => ⟨h, rfl, fun tw ht => by cases ht⟩
  | k + 1 => by
    obtain ⟨h1, h2, h3⟩ := mdK_ok s ks h hk k
    have h4 := dsK_ok (mdK s ks k).1 ks h1 hk ks.length (Nat.le_refl _)
    have h5 := dsK_get (mdK s ks k).1 ks h1 hk ks.length (Nat.le_refl _)
    refine ⟨h4.1, by simp only [mdK, List.length_append, List.length_singleton, h2], fun tw ht => ?_⟩
    simp only [mdK, List.mem_append, List.mem_singleton] at ht
    rcases ht with ht | rfl
    · exact h3 tw ht
    · exact ⟨h4.2, fun i hi => h5 i hi⟩
def mdOk (m : Model) : Prop := kindsOk m.ks ∧ m.nm.length ≤ 3 ∧ (1 ≤ m.mv.length ∧ m.mv.length ≤ 3) ∧ ∀ tw ∈ m.mv, twOk m.ks tw
def treeM : OT := (.alt 0 (.alt 1 (.alt 2 (.alt 3 (.alt 4 (.alt 5 (.alt 6 (.alt 7 (.alt 8 (.alt 9 .done .stop) .stop) .stop) .stop) .stop) .stop) .stop) (.alt 3 (.alt 2 (.alt 4 (.alt 5 (.alt 6 (.alt 7 (.alt 8 (.alt 9 .done .stop) .stop) .stop) .stop) .stop) .stop) (.alt 4 (.alt 2 (.alt 5 (.alt 6 (.alt 7 (.alt 8 (.alt 9 .done .stop) .stop) .stop) .stop) .stop) .stop) .stop)) .stop)) (.alt 2 (.alt 1 (.alt 3 (.alt 4 (.alt 5 (.alt 6 (.alt 7 (.alt 8 (.alt 9 .done .stop) .stop) .stop) .stop) .stop) .stop) .stop) (.alt 3 (.alt 1 (.alt 4 (.alt 5 (.alt 6 (.alt 7 (.alt 8 (.alt 9 .done .stop) .stop) .stop) .stop) .stop) .stop) (.alt 4 (.alt 1 (.alt 5 (.alt 6 (.alt 7 (.alt 8 (.alt 9 .done .stop) .stop) .stop) .stop) .stop) (.alt 5 (.alt 1 (.alt 6 (.alt 7 (.alt 8 (.alt 9 .done .stop) .stop) .stop) .stop) (.alt 6 (.alt 1 (.alt 7 (.alt 8 (.alt 9 .done .stop) .stop) .stop) .stop) .stop)) .stop)) .stop)) .stop)) (.alt 3 (.alt 1 (.alt 2 (.alt 4 (.alt 5 (.alt 6 (.alt 7 (.alt 8 (.alt 9 .done .stop) .stop) .stop) .stop) .stop) .stop) (.alt 4 (.alt 2 (.alt 5 (.alt 6 (.alt 7 (.alt 8 (.alt 9 .done .stop) .stop) .stop) .stop) .stop) .stop) .stop)) (.alt 2 (.alt 1 (.alt 4 (.alt 5 (.alt 6 (.alt 7 (.alt 8 (.alt 9 .done .stop) .stop) .stop) .stop) .stop) .stop) (.alt 4 (.alt 1 (.alt 5 (.alt 6 (.alt 7 (.alt 8 (.alt 9 .done .stop) .stop) .stop) .stop) .stop) (.alt 5 (.alt 1 (.alt 6 (.alt 7 (.alt 8 (.alt 9 .done .stop) .stop) .stop) .stop) (.alt 6 (.alt 1 (.alt 7 (.alt 8 (.alt 9 .done .stop) .stop) .stop) .stop) .stop)) .stop)) .stop)) (.alt 4 (.alt 1 (.alt 2 (.alt 5 (.alt 6 (.alt 7 (.alt 8 (.alt 9 .done .stop) .stop) .stop) .stop) .stop) .stop) (.alt 2 (.alt 1 (.alt 5 (.alt 6 (.alt 7 (.alt 8 (.alt 9 .done .stop) .stop) .stop) .stop) .stop) (.alt 5 (.alt 1 (.alt 6 (.alt 7 (.alt 8 (.alt 9 .done .stop) .stop) .stop) .stop) (.alt 6 (.alt 1 (.alt 7 (.alt 8 (.alt 9 .done .stop) .stop) .stop) .stop) .stop)) .stop)) .stop)) .stop))) .stop))) (.alt 2 (.alt 0 (.alt 1 (.alt 3 (.alt 4 (.alt 5 (.alt 6 (.alt 7 (.alt 8 (.alt 9 .done .stop) .stop) .stop) .stop) .stop) .stop) .stop) (.alt 3 (.alt 1 (.alt 4 (.alt 5 (.alt 6 (.alt 7 (.alt 8 (.alt 9 .done .stop) .stop) .stop) .stop) .stop) .stop) (.alt 4 (.alt 1 (.alt 5 (.alt 6 (.alt 7 (.alt 8 (.alt 9 .done .stop) .stop) .stop) .stop) .stop) (.alt 5 (.alt 1 (.alt 6 (.alt 7 (.alt 8 (.alt 9 .done .stop) .stop) .stop) .stop) (.alt 6 (.alt 1 (.alt 7 (.alt 8 (.alt 9 .done .stop) .stop) .stop) .stop) .stop)) .stop)) .stop)) .stop)) (.alt 3 (.alt 0 (.alt 1 (.alt 4 (.alt 5 (.alt 6 (.alt 7 (.alt 8 (.alt 9 .done .stop) .stop) .stop) .stop) .stop) .stop) (.alt 4 (.alt 1 (.alt 5 (.alt 6 (.alt 7 (.alt 8 (.alt 9 .done .stop) .stop) .stop) .stop) .stop) (.alt 5 (.alt 1 (.alt 6 (.alt 7 (.alt 8 (.alt 9 .done .stop) .stop) .stop) .stop) (.alt 6 (.alt 1 (.alt 7 (.alt 8 (.alt 9 .done .stop) .stop) .stop) .stop) .stop)) .stop)) .stop)) (.alt 4 (.alt 0 (.alt 1 (.alt 5 (.alt 6 (.alt 7 (.alt 8 (.alt 9 .done .stop) .stop) .stop) .stop) .stop) (.alt 5 (.alt 1 (.alt 6 (.alt 7 (.alt 8 (.alt 9 .done .stop) .stop) .stop) .stop) (.alt 6 (.alt 1 (.alt 7 (.alt 8 (.alt 9 .done .stop) .stop) .stop) .stop) .stop)) .stop)) (.alt 5 (.alt 0 (.alt 1 (.alt 6 (.alt 7 (.alt 8 (.alt 9 .done .stop) .stop) .stop) .stop) (.alt 6 (.alt 1 (.alt 7 (.alt 8 (.alt 9 .done .stop) .stop) .stop) .stop) .stop)) (.alt 6 (.alt 0 (.alt 1 (.alt 7 (.alt 8 (.alt 9 .done .stop) .stop) .stop) .stop) .stop) .stop)) .stop)) .stop)) .stop)) (.alt 3 (.alt 0 (.alt 1 (.alt 2 (.alt 4 (.alt 5 (.alt 6 (.alt 7 (.alt 8 (.alt 9 .done .stop) .stop) .stop) .stop) .stop) .stop) (.alt 4 (.alt 2 (.alt 5 (.alt 6 (.alt 7 (.alt 8 (.alt 9 .done .stop) .stop) .stop) .stop) .stop) .stop) .stop)) (.alt 2 (.alt 1 (.alt 4 (.alt 5 (.alt 6 (.alt 7 (.alt 8 (.alt 9 .done .stop) .stop) .stop) .stop) .stop) .stop) (.alt 4 (.alt 1 (.alt 5 (.alt 6 (.alt 7 (.alt 8 (.alt 9 .done .stop) .stop) .stop) .stop) .stop) (.alt 5 (.alt 1 (.alt 6 (.alt 7 (.alt 8 (.alt 9 .done .stop) .stop) .stop) .stop) (.alt 6 (.alt 1 (.alt 7 (.alt 8 (.alt 9 .done .stop) .stop) .stop) .stop) .stop)) .stop)) .stop)) (.alt 4 (.alt 1 (.alt 2 (.alt 5 (.alt 6 (.alt 7 (.alt 8 (.alt 9 .done .stop) .stop) .stop) .stop) .stop) .stop) (.alt 2 (.alt 1 (.alt 5 (.alt 6 (.alt 7 (.alt 8 (.alt 9 .done .stop) .stop) .stop) .stop) .stop) (.alt 5 (.alt 1 (.alt 6 (.alt 7 (.alt 8 (.alt 9 .done .stop) .stop) .stop) .stop) (.alt 6 (.alt 1 (.alt 7 (.alt 8 (.alt 9 .done .stop) .stop) .stop) .stop) .stop)) .stop)) .stop)) .stop))) (.alt 2 (.alt 0 (.alt 1 (.alt 4 (.alt 5 (.alt 6 (.alt 7 (.alt 8 (.alt 9 .done .stop) .stop) .stop) .stop) .stop) .stop) (.alt 4 (.alt 1 (.alt 5 (.alt 6 (.alt 7 (.alt 8 (.alt 9 .done .stop) .stop) .stop) .stop) .stop) (.alt 5 (.alt 1 (.alt 6 (.alt 7 (.alt 8 (.alt 9 .done .stop) .stop) .stop) .stop) (.alt 6 (.alt 1 (.alt 7 (.alt 8 (.alt 9 .done .stop) .stop) .stop) .stop) .stop)) .stop)) .stop)) (.alt 4 (.alt 0 (.alt 1 (.alt 5 (.alt 6 (.alt 7 (.alt 8 (.alt 9 .done .stop) .stop) .stop) .stop) .stop) (.alt 5 (.alt 1 (.alt 6 (.alt 7 (.alt 8 (.alt 9 .done .stop) .stop) .stop) .stop) (.alt 6 (.alt 1 (.alt 7 (.alt 8 (.alt 9 .done .stop) .stop) .stop) .stop) .stop)) .stop)) (.alt 5 (.alt 0 (.alt 1 (.alt 6 (.alt 7 (.alt 8 (.alt 9 .done .stop) .stop) .stop) .stop) (.alt 6 (.alt 1 (.alt 7 (.alt 8 (.alt 9 .done .stop) .stop) .stop) .stop) .stop)) (.alt 6 (.alt 0 (.alt 1 (.alt 7 (.alt 8 (.alt 9 .done .stop) .stop) .stop) .stop) .stop) .stop)) .stop)) .stop)) (.alt 4 (.alt 0 (.alt 1 (.alt 2 (.alt 5 (.alt 6 (.alt 7 (.alt 8 (.alt 9 .done .stop) .stop) .stop) .stop) .stop) .stop) (.alt 2 (.alt 1 (.alt 5 (.alt 6 (.alt 7 (.alt 8 (.alt 9 .done .stop) .stop) .stop) .stop) .stop) (.alt 5 (.alt 1 (.alt 6 (.alt 7 (.alt 8 (.alt 9 .done .stop) .stop) .stop) .stop) (.alt 6 (.alt 1 (.alt 7 (.alt 8 (.alt 9 .done .stop) .stop) .stop) .stop) .stop)) .stop)) .stop)) (.alt 2 (.alt 0 (.alt 1 (.alt 5 (.alt 6 (.alt 7 (.alt 8 (.alt 9 .done .stop) .stop) .stop) .stop) .stop) (.alt 5 (.alt 1 (.alt 6 (.alt 7 (.alt 8 (.alt 9 .done .stop) .stop) .stop) .stop) (.alt 6 (.alt 1 (.alt 7 (.alt 8 (.alt 9 .done .stop) .stop) .stop) .stop) .stop)) .stop)) (.alt 5 (.alt 0 (.alt 1 (.alt 6 (.alt 7 (.alt 8 (.alt 9 .done .stop) .stop) .stop) .stop) (.alt 6 (.alt 1 (.alt 7 (.alt 8 (.alt 9 .done .stop) .stop) .stop) .stop) .stop)) (.alt 6 (.alt 0 (.alt 1 (.alt 7 (.alt 8 (.alt 9 .done .stop) .stop) .stop) .stop) .stop) .stop)) .stop)) .stop)) .stop))) .stop)))
set_option maxHeartbeats 4000000 in
theorem drawModel (s : Src) (h : s.ok) : ∃ (s' : Src) (m : Model), SpecX Try.prog 183 [s.pt] [some s'.pt] m.tr ∧ s'.ok ∧ mdOk m := by
  obtain ⟨s1, ks, q1, k1, hks⟩ := drawKinds s h
  obtain ⟨s2, x2, q2, k2, b1, b2, _⟩ := below s1 3 k1 (by unfold intOk; omega)
  have b2 := b2 (by omega)
  obtain ⟨n0, hn⟩ : ∃ n : Nat, x2 = n := ⟨_, (Int.toNat_of_nonneg b1).symm⟩
  subst hn
  obtain ⟨n, hn⟩ : ∃ n : Nat, n = 1 + n0 := ⟨_, rfl⟩
  have hn1 : (1 : Int) + n0 = n := by omega
  have hn3 : n ≤ 3 := by omega
  have hmd := mdK_ok s2 ks k2 hks
  have hml := (hmd n).2.1
  refine ⟨(mdK s2 ks n).1, ⟨ks, ([65, 66, 67] : List UInt8).take n, (mdK s2 ks n).2⟩, ?_, (hmd n).1, hks, by simp; omega, by simp only [hml]; omega, (hmd n).2.2⟩
  refine spec_of_awp_any (M := MM) (np := 1) (X := [7]) (fz := false) mixed Try.func183 rfl rfl (by decide) rfl (Nat.le_refl _) (by decide +kernel) (.inl rfl) (by simp only [sigsOk_some, sigsOk_nil, and_true]; rfl) ?_
  simp -dsimp -implicitDefEqProofs (disch := first | omega | (simp only [lenr]; done) | (simp only [lenr]; omega)) only [↓amPre, amAll, ↓reduceIte, reduceCtorEq, Nat.reduceEqDiff, Nat.reduceBEq, Nat.reduceAdd, Nat.reduceLeDiff, Nat.reduceSub, Nat.reduceMul, Int.reduceToNat, List.size_toArray, tyF, MM, bu0, ipure, kpure, tpure, sspure, kset, tset, ksnoc, tsnoc, Kind.av, Twist.sl, Twist.tr, Invar.av, stsize, stget, sttl, stapp, stext, tsspure, Model.sl, Model.tr]
  refine callX_of (q1) ?_
  simp -dsimp -implicitDefEqProofs (disch := first | omega | (simp only [lenr]; done) | (simp only [lenr]; omega)) only [↓amPre, amAll, ↓reduceIte, reduceCtorEq, Nat.reduceEqDiff, Nat.reduceBEq, Nat.reduceAdd, Nat.reduceLeDiff, Nat.reduceSub, Nat.reduceMul, Int.reduceToNat, List.size_toArray, tyF, MM, bu0, ipure, kpure, tpure, sspure, kset, tset, ksnoc, tsnoc, Kind.av, Twist.sl, Twist.tr, Invar.av, stsize, stget, sttl, stapp, stext, tsspure, Model.sl, Model.tr]
  refine callX_of (q2) ?_
  simp -dsimp -implicitDefEqProofs (disch := first | omega | (simp only [lenr]; done) | (simp only [lenr]; omega)) only [↓amPre, amAll, ↓reduceIte, reduceCtorEq, Nat.reduceEqDiff, Nat.reduceBEq, Nat.reduceAdd, Nat.reduceLeDiff, Nat.reduceSub, Nat.reduceMul, Int.reduceToNat, List.size_toArray, tyF, MM, bu0, ipure, kpure, tpure, sspure, kset, tset, ksnoc, tsnoc, Kind.av, Twist.sl, Twist.tr, Invar.av, stsize, stget, sttl, stapp, stext, tsspure, Model.sl, Model.tr, hn1]
  refine awp_loopC 3 2 3 1 [ktr ks, .st (([65, 66, 67] : List UInt8).take n), .nilsl] (by simp -dsimp -implicitDefEqProofs (disch := first | omega | (simp only [lenr]; done) | (simp only [lenr]; omega)) only [↓amPre, amAll, ↓reduceIte, reduceCtorEq, Nat.reduceEqDiff, Nat.reduceBEq, Nat.reduceAdd, Nat.reduceLeDiff, Nat.reduceSub, Nat.reduceMul, Int.reduceToNat, List.size_toArray, tyF, MM, bu0, ipure, kpure, tpure, sspure, kset, tset, ksnoc, tsnoc, Kind.av, Twist.sl, Twist.tr, Invar.av, stsize, stget, sttl, stapp, stext, tsspure, Model.sl, Model.tr]) (by simp) (by simp) (fun k st => k ≤ n ∧ st.fr 5 = .i64 k ∧ st.fr 4 = .i64 n ∧ st.fr 3 = .loc 3 [] 0 0 ∧ st.fr 2 = .loc 2 [] 0 0 ∧ st.fr 0 = .loc 0 [] 0 0 ∧ st.mem 3 = some (.pt 3 (.agg [ktr ks, .st (([65, 66, 67] : List UInt8).take n), tsst (mdK s2 ks k).2])) ∧ st.mem 0 = some ((mdK s2 ks k).1.pt) ∧ st.mem 2 = some (.pt 3 (.agg [.nilsl, .st [], .nilsl]))) (n) ?_ ?_
  · simp -dsimp -implicitDefEqProofs (disch := first | omega | (simp only [lenr]; done) | (simp only [lenr]; omega)) only [↓amPre, amAll, ↓reduceIte, reduceCtorEq, Nat.reduceEqDiff, Nat.reduceBEq, Nat.reduceAdd, Nat.reduceLeDiff, Nat.reduceSub, Nat.reduceMul, Int.reduceToNat, List.size_toArray, tyF, MM, bu0, ipure, kpure, tpure, sspure, kset, tset, ksnoc, tsnoc, Kind.av, Twist.sl, Twist.tr, Invar.av, stsize, stget, sttl, stapp, stext, tsspure, Model.sl, Model.tr, nilC_eq]
    simp [mdK]
  rintro k st _ ⟨hk, f5, f4, f3, f2, f0, m3, m0, m2⟩
  obtain ⟨k3, hl3, _⟩ := hmd k
  by_cases hlt : k < n
  · have hds := drawState (mdK s2 ks k).1 ks k3 hks
    have hst : mdK s2 ks (k + 1) = ((dsK (mdK s2 ks k).1 ks ks.length).1, (mdK s2 ks k).2 ++ [(dsK (mdK s2 ks k).1 ks ks.length).2]) := rfl
    rw [hst]
    generalize (dsK (mdK s2 ks k).1 ks ks.length).1 = S3 at hds
    generalize (dsK (mdK s2 ks k).1 ks ks.length).2 = TW at hds
    generalize (mdK s2 ks k).2 = L at *
    generalize (mdK s2 ks k).1 = S2 at *
    simp -dsimp -implicitDefEqProofs (disch := first | omega | (simp only [lenr]; done) | (simp only [lenr]; omega)) only [↓amPre, amAll, ↓reduceIte, reduceCtorEq, Nat.reduceEqDiff, Nat.reduceBEq, Nat.reduceAdd, Nat.reduceLeDiff, Nat.reduceSub, Nat.reduceMul, Int.reduceToNat, List.size_toArray, tyF, MM, bu0, ipure, kpure, tpure, sspure, kset, tset, ksnoc, tsnoc, Kind.av, Twist.sl, Twist.tr, Invar.av, stsize, stget, sttl, stapp, stext, tsspure, Model.sl, Model.tr, f5, f4, f3, f2, f0, m3, m0, m2]
    refine any_go treeM (fun st' => st'.fr 5 = .i64 k ∧ st'.fr 4 = .i64 n ∧ st'.fr 3 = .loc 3 [] 0 0 ∧ st'.fr 2 = .loc 2 [] 0 0 ∧ st'.fr 0 = .loc 0 [] 0 0 ∧ st'.mem 3 = some (.pt 3 (.agg [ktr ks, .st (([65, 66, 67] : List UInt8).take n), tsst (L ++ [TW])])) ∧ st'.mem 0 = some S3.pt ∧ st'.mem 2 = some (.pt 3 (.agg [.nilsl, .st [], .nilsl]))) (by decide +kernel) ?_ ?_
    · simp (maxSteps := 4000000) -dsimp -implicitDefEqProofs (disch := first | omega | (simp only [lenr]; done) | (simp only [lenr]; omega)) only [↓amPre, amAll, ↓reduceIte, reduceCtorEq, Nat.reduceEqDiff, Nat.reduceBEq, Nat.reduceAdd, Nat.reduceLeDiff, Nat.reduceSub, Nat.reduceMul, Int.reduceToNat, List.size_toArray, tyF, MM, bu0, ipure, kpure, tpure, sspure, kset, tset, ksnoc, tsnoc, Kind.av, Twist.sl, Twist.tr, Invar.av, stsize, stget, sttl, stapp, stext, tsspure, Model.sl, Model.tr, f5, f4, f3, f2, f0, m3, m0, m2, treeM]
      repeat' apply And.intro
      all_goals refine callX_of hds ?_
      all_goals simp (maxSteps := 4000000) -dsimp -implicitDefEqProofs (disch := first | omega | (simp only [lenr]; done) | (simp only [lenr]; omega)) only [↓amPre, amAll, ↓reduceIte, reduceCtorEq, Nat.reduceEqDiff, Nat.reduceBEq, Nat.reduceAdd, Nat.reduceLeDiff, Nat.reduceSub, Nat.reduceMul, Int.reduceToNat, List.size_toArray, tyF, MM, bu0, ipure, kpure, tpure, sspure, kset, tset, ksnoc, tsnoc, Kind.av, Twist.sl, Twist.tr, Invar.av, stsize, stget, sttl, stapp, stext, tsspure, Model.sl, Model.tr, f5, f4, f3, f2, f0, m3, m0, m2]
    · rintro st' ⟨g5, g4, g3, g2, g0, m3', m0', m2'⟩
      simp -dsimp -implicitDefEqProofs (disch := first | omega | (simp only [lenr]; done) | (simp only [lenr]; omega)) only [↓amPre, amAll, ↓reduceIte, reduceCtorEq, Nat.reduceEqDiff, Nat.reduceBEq, Nat.reduceAdd, Nat.reduceLeDiff, Nat.reduceSub, Nat.reduceMul, Int.reduceToNat, List.size_toArray, tyF, MM, bu0, ipure, kpure, tpure, sspure, kset, tset, ksnoc, tsnoc, Kind.av, Twist.sl, Twist.tr, Invar.av, stsize, stget, sttl, stapp, stext, tsspure, Model.sl, Model.tr, g5, g4, g3, g2, g0, m3', m0', m2']
      repeat' (first | omega | rfl | exact i64c (by omega) | exact vic (by omega) | apply And.intro)
  · have hke : k = n := by omega
    subst hke
    simp -dsimp -implicitDefEqProofs (disch := first | omega | (simp only [lenr]; done) | (simp only [lenr]; omega)) only [↓amPre, amAll, ↓reduceIte, reduceCtorEq, Nat.reduceEqDiff, Nat.reduceBEq, Nat.reduceAdd, Nat.reduceLeDiff, Nat.reduceSub, Nat.reduceMul, Int.reduceToNat, List.size_toArray, tyF, MM, bu0, ipure, kpure, tpure, sspure, kset, tset, ksnoc, tsnoc, Kind.av, Twist.sl, Twist.tr, Invar.av, stsize, stget, sttl, stapp, stext, tsspure, Model.sl, Model.tr, f5, f4, f3, f2, f0, m3, m0, m2]
def fewM (m : Model) : Prop := m.ks.length ≤ 3 ∧ m.nm.length ≤ 5 ∧ m.mv.length ≤ 3 ∧ ∀ tw ∈ m.mv, fewT tw
theorem mdOk_few {m : Model} (h : mdOk m) : fewM m := ⟨h.1.1.2, by have := h.2.1; omega, h.2.2.1.2, fun tw ht => by
  obtain ⟨h1, h2⟩ := h.2.2.2 tw ht
  refine fewT_of _ (by rw [h1]; exact h.1.1.2) fun t htt => ?_
  obtain ⟨i, hi, rfl⟩ := List.getElem_of_mem htt
  have := h2 i (by omega)
  rw [getD_eq _ _ _ hi] at this
  obtain ⟨c1, c2, o1, o2, _⟩ := kindsOk_kind h.1 (mem_getD m.ks i default (by omega))
  omega⟩
def nms5 : List (List UInt8) := [[], [65, 65], [97], [90, 89, 88, 87, 86], [65]]
theorem drawModelAny (s : Src) (h : s.ok) : ∃ (s' : Src) (m : Model), SpecX Try.prog 93 [s.pt] [some s'.pt] m.tr ∧ s'.ok ∧ fewM m := by
  obtain ⟨s1, m, q1, k1, hm⟩ := drawModel s h
  have hf := mdOk_few hm
  obtain ⟨hks, hnm, hmv, htw⟩ := hm
  obtain ⟨s2, b, q2, k2⟩ := oneIn s1 8 k1 (by unfold intOk; omega)
  cases b with
  | false =>
    refine ⟨s2, m, ?_, k2, hf⟩
    refine spec_of_awp (M := MM) (np := 1) (fz := false) mixed Try.func93 rfl rfl (by decide) rfl (Nat.le_refl _) (by decide +kernel) (.inl rfl) (by simp only [sigsOk_some, sigsOk_nil, and_true]; rfl) ?_
    simp -dsimp -implicitDefEqProofs (disch := first | omega | (simp only [lenr]; done) | (simp only [lenr]; omega)) only [↓amPre, amAll, ↓reduceIte, reduceCtorEq, Nat.reduceEqDiff, Nat.reduceBEq, Nat.reduceAdd, Nat.reduceLeDiff, Nat.reduceSub, Nat.reduceMul, Int.reduceToNat, List.size_toArray, tyF, MM, bu0, ipure, kpure, tpure, sspure, kset, tset, ksnoc, tsnoc, Kind.av, Twist.sl, Twist.tr, Invar.av, stsize, stget, sttl, stapp, stext, tsspure, Model.sl, Model.tr]
    refine callX_of (q1) ?_
    simp -dsimp -implicitDefEqProofs (disch := first | omega | (simp only [lenr]; done) | (simp only [lenr]; omega)) only [↓amPre, amAll, ↓reduceIte, reduceCtorEq, Nat.reduceEqDiff, Nat.reduceBEq, Nat.reduceAdd, Nat.reduceLeDiff, Nat.reduceSub, Nat.reduceMul, Int.reduceToNat, List.size_toArray, tyF, MM, bu0, ipure, kpure, tpure, sspure, kset, tset, ksnoc, tsnoc, Kind.av, Twist.sl, Twist.tr, Invar.av, stsize, stget, sttl, stapp, stext, tsspure, Model.sl, Model.tr]
    refine callX_of (q2) ?_
    simp -dsimp -implicitDefEqProofs (disch := first | omega | (simp only [lenr]; done) | (simp only [lenr]; omega)) only [↓amPre, amAll, ↓reduceIte, reduceCtorEq, Nat.reduceEqDiff, Nat.reduceBEq, Nat.reduceAdd, Nat.reduceLeDiff, Nat.reduceSub, Nat.reduceMul, Int.reduceToNat, List.size_toArray, tyF, MM, bu0, ipure, kpure, tpure, sspure, kset, tset, ksnoc, tsnoc, Kind.av, Twist.sl, Twist.tr, Invar.av, stsize, stget, sttl, stapp, stext, tsspure, Model.sl, Model.tr]
  | true =>
  obtain ⟨s3, x3, q3, k3, b1, b2, _⟩ := below s2 5 k2 (by unfold intOk; omega)
  have b2 := b2 (by omega)
  obtain ⟨n, hn⟩ : ∃ n : Nat, x3 = n := ⟨_, (Int.toNat_of_nonneg b1).symm⟩
  have hn5 : n < 5 := by omega
  subst hn
  obtain ⟨ks, nm, mv⟩ := m
  simp only at hks hnm hmv htw
  obtain ⟨⟨kc, ko⟩, kr, rfl⟩ := list_cons ks hks.1.1
  obtain ⟨tw0, mr, rfl⟩ := list_cons mv hmv.1
  obtain ⟨ht1, ht2⟩ := htw tw0 (List.mem_cons_self ..)
  obtain ⟨⟨t0, y0⟩, tr, rfl⟩ := list_cons tw0 (by rw [ht1]; exact hks.1.1)
  have g0 := ht2 0 (by simp)
  obtain ⟨c1, c2, o1, o2, _⟩ := kindsOk_kind hks (show (⟨kc, ko⟩ : Kind) ∈ _ from List.mem_cons_self ..)
  simp only [List.getD_cons_zero] at g0 c1 c2
  obtain ⟨d0, dr, rfl⟩ := list_cons y0 (by omega)
  obtain ⟨f1, f2, f3, f4⟩ := hf
  simp only at f1 f2 f3 f4
  match n, hn5 with
  | 0, _ =>
    obtain ⟨s4, x4, q4, k4, e1, e2, _⟩ := below s3 5 k3 (by unfold intOk; omega)
    have e2 := e2 (by omega)
    obtain ⟨j, hj⟩ : ∃ j : Nat, x4 = j := ⟨_, (Int.toNat_of_nonneg e1).symm⟩
    have hj5 : j < 5 := by omega
    subst hj
    refine ⟨s4, ⟨⟨kc, ko⟩ :: kr, nms5.getD j [], (⟨t0, d0 :: dr⟩ :: tr) :: mr⟩, ?_, k4, f1, ?_, f3, f4⟩
    · refine spec_of_awp (M := MM) (np := 1) (fz := false) mixed Try.func93 rfl rfl (by decide) rfl (Nat.le_refl _) (by decide +kernel) (.inl rfl) (by simp only [sigsOk_some, sigsOk_nil, and_true]; rfl) ?_
      simp -dsimp -implicitDefEqProofs (disch := first | omega | (simp only [lenr]; done) | (simp only [lenr]; omega)) only [↓amPre, amAll, ↓reduceIte, reduceCtorEq, Nat.reduceEqDiff, Nat.reduceBEq, Nat.reduceAdd, Nat.reduceLeDiff, Nat.reduceSub, Nat.reduceMul, Int.reduceToNat, List.size_toArray, tyF, MM, bu0, ipure, kpure, tpure, sspure, kset, tset, ksnoc, tsnoc, Kind.av, Twist.sl, Twist.tr, Invar.av, stsize, stget, sttl, stapp, stext, tsspure, Model.sl, Model.tr]
      refine callX_of (q1) ?_
      simp -dsimp -implicitDefEqProofs (disch := first | omega | (simp only [lenr]; done) | (simp only [lenr]; omega)) only [↓amPre, amAll, ↓reduceIte, reduceCtorEq, Nat.reduceEqDiff, Nat.reduceBEq, Nat.reduceAdd, Nat.reduceLeDiff, Nat.reduceSub, Nat.reduceMul, Int.reduceToNat, List.size_toArray, tyF, MM, bu0, ipure, kpure, tpure, sspure, kset, tset, ksnoc, tsnoc, Kind.av, Twist.sl, Twist.tr, Invar.av, stsize, stget, sttl, stapp, stext, tsspure, Model.sl, Model.tr]
      refine callX_of (q2) ?_
      simp -dsimp -implicitDefEqProofs (disch := first | omega | (simp only [lenr]; done) | (simp only [lenr]; omega)) only [↓amPre, amAll, ↓reduceIte, reduceCtorEq, Nat.reduceEqDiff, Nat.reduceBEq, Nat.reduceAdd, Nat.reduceLeDiff, Nat.reduceSub, Nat.reduceMul, Int.reduceToNat, List.size_toArray, tyF, MM, bu0, ipure, kpure, tpure, sspure, kset, tset, ksnoc, tsnoc, Kind.av, Twist.sl, Twist.tr, Invar.av, stsize, stget, sttl, stapp, stext, tsspure, Model.sl, Model.tr]
      refine callX_of (q3) ?_
      simp -dsimp -implicitDefEqProofs (disch := first | omega | (simp only [lenr]; done) | (simp only [lenr]; omega)) only [↓amPre, amAll, ↓reduceIte, reduceCtorEq, Nat.reduceEqDiff, Nat.reduceBEq, Nat.reduceAdd, Nat.reduceLeDiff, Nat.reduceSub, Nat.reduceMul, Int.reduceToNat, List.size_toArray, tyF, MM, bu0, ipure, kpure, tpure, sspure, kset, tset, ksnoc, tsnoc, Kind.av, Twist.sl, Twist.tr, Invar.av, stsize, stget, sttl, stapp, stext, tsspure, Model.sl, Model.tr]
      refine callX_of (q4) ?_
      match j, hj5 with
      | 0, _ =>
        simp -dsimp -implicitDefEqProofs (disch := first | omega | (simp only [lenr]; done) | (simp only [lenr]; omega)) only [↓amPre, amAll, ↓reduceIte, reduceCtorEq, Nat.reduceEqDiff, Nat.reduceBEq, Nat.reduceAdd, Nat.reduceLeDiff, Nat.reduceSub, Nat.reduceMul, Int.reduceToNat, List.size_toArray, tyF, MM, bu0, ipure, kpure, tpure, sspure, kset, tset, ksnoc, tsnoc, Kind.av, Twist.sl, Twist.tr, Invar.av, stsize, stget, sttl, stapp, stext, tsspure, Model.sl, Model.tr, nms5]
      | 1, _ =>
        simp -dsimp -implicitDefEqProofs (disch := first | omega | (simp only [lenr]; done) | (simp only [lenr]; omega)) only [↓amPre, amAll, ↓reduceIte, reduceCtorEq, Nat.reduceEqDiff, Nat.reduceBEq, Nat.reduceAdd, Nat.reduceLeDiff, Nat.reduceSub, Nat.reduceMul, Int.reduceToNat, List.size_toArray, tyF, MM, bu0, ipure, kpure, tpure, sspure, kset, tset, ksnoc, tsnoc, Kind.av, Twist.sl, Twist.tr, Invar.av, stsize, stget, sttl, stapp, stext, tsspure, Model.sl, Model.tr, nms5]
      | 2, _ =>
        simp -dsimp -implicitDefEqProofs (disch := first | omega | (simp only [lenr]; done) | (simp only [lenr]; omega)) only [↓amPre, amAll, ↓reduceIte, reduceCtorEq, Nat.reduceEqDiff, Nat.reduceBEq, Nat.reduceAdd, Nat.reduceLeDiff, Nat.reduceSub, Nat.reduceMul, Int.reduceToNat, List.size_toArray, tyF, MM, bu0, ipure, kpure, tpure, sspure, kset, tset, ksnoc, tsnoc, Kind.av, Twist.sl, Twist.tr, Invar.av, stsize, stget, sttl, stapp, stext, tsspure, Model.sl, Model.tr, nms5]
      | 3, _ =>
        simp -dsimp -implicitDefEqProofs (disch := first | omega | (simp only [lenr]; done) | (simp only [lenr]; omega)) only [↓amPre, amAll, ↓reduceIte, reduceCtorEq, Nat.reduceEqDiff, Nat.reduceBEq, Nat.reduceAdd, Nat.reduceLeDiff, Nat.reduceSub, Nat.reduceMul, Int.reduceToNat, List.size_toArray, tyF, MM, bu0, ipure, kpure, tpure, sspure, kset, tset, ksnoc, tsnoc, Kind.av, Twist.sl, Twist.tr, Invar.av, stsize, stget, sttl, stapp, stext, tsspure, Model.sl, Model.tr, nms5]
      | 4, _ =>
        simp -dsimp -implicitDefEqProofs (disch := first | omega | (simp only [lenr]; done) | (simp only [lenr]; omega)) only [↓amPre, amAll, ↓reduceIte, reduceCtorEq, Nat.reduceEqDiff, Nat.reduceBEq, Nat.reduceAdd, Nat.reduceLeDiff, Nat.reduceSub, Nat.reduceMul, Int.reduceToNat, List.size_toArray, tyF, MM, bu0, ipure, kpure, tpure, sspure, kset, tset, ksnoc, tsnoc, Kind.av, Twist.sl, Twist.tr, Invar.av, stsize, stget, sttl, stapp, stext, tsspure, Model.sl, Model.tr, nms5]
    · match j, hj5 with
      | 0, _ | 1, _ | 2, _ | 3, _ | 4, _ => simp [nms5]
  | 1, _ =>
    refine ⟨s3, ⟨⟨kc, ko⟩ :: kr, nm, mr⟩, ?_, k3, f1, f2, by simp only [List.length_cons] at f3 ⊢; omega, fun t ht => f4 t (List.mem_cons_of_mem _ ht)⟩
    refine spec_of_awp (M := MM) (np := 1) (fz := false) mixed Try.func93 rfl rfl (by decide) rfl (Nat.le_refl _) (by decide +kernel) (.inl rfl) (by simp only [sigsOk_some, sigsOk_nil, and_true]; rfl) ?_
    simp -dsimp -implicitDefEqProofs (disch := first | omega | (simp only [lenr]; done) | (simp only [lenr]; omega)) only [↓amPre, amAll, ↓reduceIte, reduceCtorEq, Nat.reduceEqDiff, Nat.reduceBEq, Nat.reduceAdd, Nat.reduceLeDiff, Nat.reduceSub, Nat.reduceMul, Int.reduceToNat, List.size_toArray, tyF, MM, bu0, ipure, kpure, tpure, sspure, kset, tset, ksnoc, tsnoc, Kind.av, Twist.sl, Twist.tr, Invar.av, stsize, stget, sttl, stapp, stext, tsspure, Model.sl, Model.tr]
    refine callX_of (q1) ?_
    simp -dsimp -implicitDefEqProofs (disch := first | omega | (simp only [lenr]; done) | (simp only [lenr]; omega)) only [↓amPre, amAll, ↓reduceIte, reduceCtorEq, Nat.reduceEqDiff, Nat.reduceBEq, Nat.reduceAdd, Nat.reduceLeDiff, Nat.reduceSub, Nat.reduceMul, Int.reduceToNat, List.size_toArray, tyF, MM, bu0, ipure, kpure, tpure, sspure, kset, tset, ksnoc, tsnoc, Kind.av, Twist.sl, Twist.tr, Invar.av, stsize, stget, sttl, stapp, stext, tsspure, Model.sl, Model.tr]
    refine callX_of (q2) ?_
    simp -dsimp -implicitDefEqProofs (disch := first | omega | (simp only [lenr]; done) | (simp only [lenr]; omega)) only [↓amPre, amAll, ↓reduceIte, reduceCtorEq, Nat.reduceEqDiff, Nat.reduceBEq, Nat.reduceAdd, Nat.reduceLeDiff, Nat.reduceSub, Nat.reduceMul, Int.reduceToNat, List.size_toArray, tyF, MM, bu0, ipure, kpure, tpure, sspure, kset, tset, ksnoc, tsnoc, Kind.av, Twist.sl, Twist.tr, Invar.av, stsize, stget, sttl, stapp, stext, tsspure, Model.sl, Model.tr]
    refine callX_of (q3) ?_
    simp -dsimp -implicitDefEqProofs (disch := first | omega | (simp only [lenr]; done) | (simp only [lenr]; omega)) only [↓amPre, amAll, ↓reduceIte, reduceCtorEq, Nat.reduceEqDiff, Nat.reduceBEq, Nat.reduceAdd, Nat.reduceLeDiff, Nat.reduceSub, Nat.reduceMul, Int.reduceToNat, List.size_toArray, tyF, MM, bu0, ipure, kpure, tpure, sspure, kset, tset, ksnoc, tsnoc, Kind.av, Twist.sl, Twist.tr, Invar.av, stsize, stget, sttl, stapp, stext, tsspure, Model.sl, Model.tr, pullR]
  | 2, _ =>
    obtain ⟨s4, x4, q4, k4, _⟩ := between s3 (-1) 3 k3 (by omega) (by omega) (by omega)
    refine ⟨s4, ⟨⟨kc, ko⟩ :: kr, nm, (⟨t0, x4 :: dr⟩ :: tr) :: mr⟩, ?_, k4, f1, f2, f3, fun t ht => ?_⟩
    · refine spec_of_awp_any (M := MM) (np := 1) (X := [9, 11]) (fz := false) mixed Try.func93 rfl rfl (by decide) rfl (Nat.le_refl _) (by decide +kernel) (.inl rfl) (by simp only [sigsOk_some, sigsOk_nil, and_true]; rfl) ?_
      simp -dsimp -implicitDefEqProofs (disch := first | omega | (simp only [lenr]; done) | (simp only [lenr]; omega)) only [↓amPre, amAll, ↓reduceIte, reduceCtorEq, Nat.reduceEqDiff, Nat.reduceBEq, Nat.reduceAdd, Nat.reduceLeDiff, Nat.reduceSub, Nat.reduceMul, Int.reduceToNat, List.size_toArray, tyF, MM, bu0, ipure, kpure, tpure, sspure, kset, tset, ksnoc, tsnoc, Kind.av, Twist.sl, Twist.tr, Invar.av, stsize, stget, sttl, stapp, stext, tsspure, Model.sl, Model.tr]
      refine callX_of (q1) ?_
      simp -dsimp -implicitDefEqProofs (disch := first | omega | (simp only [lenr]; done) | (simp only [lenr]; omega)) only [↓amPre, amAll, ↓reduceIte, reduceCtorEq, Nat.reduceEqDiff, Nat.reduceBEq, Nat.reduceAdd, Nat.reduceLeDiff, Nat.reduceSub, Nat.reduceMul, Int.reduceToNat, List.size_toArray, tyF, MM, bu0, ipure, kpure, tpure, sspure, kset, tset, ksnoc, tsnoc, Kind.av, Twist.sl, Twist.tr, Invar.av, stsize, stget, sttl, stapp, stext, tsspure, Model.sl, Model.tr]
      refine callX_of (q2) ?_
      simp -dsimp -implicitDefEqProofs (disch := first | omega | (simp only [lenr]; done) | (simp only [lenr]; omega)) only [↓amPre, amAll, ↓reduceIte, reduceCtorEq, Nat.reduceEqDiff, Nat.reduceBEq, Nat.reduceAdd, Nat.reduceLeDiff, Nat.reduceSub, Nat.reduceMul, Int.reduceToNat, List.size_toArray, tyF, MM, bu0, ipure, kpure, tpure, sspure, kset, tset, ksnoc, tsnoc, Kind.av, Twist.sl, Twist.tr, Invar.av, stsize, stget, sttl, stapp, stext, tsspure, Model.sl, Model.tr]
      refine callX_of (q3) ?_
      simp -dsimp -implicitDefEqProofs (disch := first | omega | (simp only [lenr]; done) | (simp only [lenr]; omega)) only [↓amPre, amAll, ↓reduceIte, reduceCtorEq, Nat.reduceEqDiff, Nat.reduceBEq, Nat.reduceAdd, Nat.reduceLeDiff, Nat.reduceSub, Nat.reduceMul, Int.reduceToNat, List.size_toArray, tyF, MM, bu0, ipure, kpure, tpure, sspure, kset, tset, ksnoc, tsnoc, Kind.av, Twist.sl, Twist.tr, Invar.av, stsize, stget, sttl, stapp, stext, tsspure, Model.sl, Model.tr]
      refine piv_go 9 8 0 (by decide +kernel) ?_
      simp -dsimp -implicitDefEqProofs (disch := first | omega | (simp only [lenr]; done) | (simp only [lenr]; omega)) only [↓amPre, amAll, ↓reduceIte, reduceCtorEq, Nat.reduceEqDiff, Nat.reduceBEq, Nat.reduceAdd, Nat.reduceLeDiff, Nat.reduceSub, Nat.reduceMul, Int.reduceToNat, List.size_toArray, tyF, MM, bu0, ipure, kpure, tpure, sspure, kset, tset, ksnoc, tsnoc, Kind.av, Twist.sl, Twist.tr, Invar.av, stsize, stget, sttl, stapp, stext, tsspure, Model.sl, Model.tr, Twist.tr]
      refine pvX_of (q4) ?_
      simp -dsimp -implicitDefEqProofs (disch := first | omega | (simp only [lenr]; done) | (simp only [lenr]; omega)) only [↓amPre, amAll, ↓reduceIte, reduceCtorEq, Nat.reduceEqDiff, Nat.reduceBEq, Nat.reduceAdd, Nat.reduceLeDiff, Nat.reduceSub, Nat.reduceMul, Int.reduceToNat, List.size_toArray, tyF, MM, bu0, ipure, kpure, tpure, sspure, kset, tset, ksnoc, tsnoc, Kind.av, Twist.sl, Twist.tr, Invar.av, stsize, stget, sttl, stapp, stext, tsspure, Model.sl, Model.tr, Twist.tr]
      rfl
    · rcases List.mem_cons.1 ht with rfl | ht
      · have h0 := f4 _ (List.mem_cons_self ..)
        refine fewT_of _ h0.1 fun t ht => ?_
        rcases List.mem_cons.1 ht with rfl | ht
        · exact h0.2.1 ⟨t0, d0 :: dr⟩ (List.mem_cons_self ..)
        · exact h0.2.1 t (List.mem_cons_of_mem _ ht)
      · exact f4 t (List.mem_cons_of_mem _ ht)
  | 3, _ =>
    obtain ⟨s4, x4, q4, k4, _⟩ := numberUpTo s3 5 k3 (by omega) (by omega)
    refine ⟨s4, ⟨⟨x4, ko⟩ :: kr, nm, (⟨t0, d0 :: dr⟩ :: tr) :: mr⟩, ?_, k4, f1, f2, f3, f4⟩
    refine spec_of_awp_any (M := MM) (np := 1) (X := [9, 11]) (fz := false) mixed Try.func93 rfl rfl (by decide) rfl (Nat.le_refl _) (by decide +kernel) (.inl rfl) (by simp only [sigsOk_some, sigsOk_nil, and_true]; rfl) ?_
    simp -dsimp -implicitDefEqProofs (disch := first | omega | (simp only [lenr]; done) | (simp only [lenr]; omega)) only [↓amPre, amAll, ↓reduceIte, reduceCtorEq, Nat.reduceEqDiff, Nat.reduceBEq, Nat.reduceAdd, Nat.reduceLeDiff, Nat.reduceSub, Nat.reduceMul, Int.reduceToNat, List.size_toArray, tyF, MM, bu0, ipure, kpure, tpure, sspure, kset, tset, ksnoc, tsnoc, Kind.av, Twist.sl, Twist.tr, Invar.av, stsize, stget, sttl, stapp, stext, tsspure, Model.sl, Model.tr]
    refine callX_of (q1) ?_
    simp -dsimp -implicitDefEqProofs (disch := first | omega | (simp only [lenr]; done) | (simp only [lenr]; omega)) only [↓amPre, amAll, ↓reduceIte, reduceCtorEq, Nat.reduceEqDiff, Nat.reduceBEq, Nat.reduceAdd, Nat.reduceLeDiff, Nat.reduceSub, Nat.reduceMul, Int.reduceToNat, List.size_toArray, tyF, MM, bu0, ipure, kpure, tpure, sspure, kset, tset, ksnoc, tsnoc, Kind.av, Twist.sl, Twist.tr, Invar.av, stsize, stget, sttl, stapp, stext, tsspure, Model.sl, Model.tr]
    refine callX_of (q2) ?_
    simp -dsimp -implicitDefEqProofs (disch := first | omega | (simp only [lenr]; done) | (simp only [lenr]; omega)) only [↓amPre, amAll, ↓reduceIte, reduceCtorEq, Nat.reduceEqDiff, Nat.reduceBEq, Nat.reduceAdd, Nat.reduceLeDiff, Nat.reduceSub, Nat.reduceMul, Int.reduceToNat, List.size_toArray, tyF, MM, bu0, ipure, kpure, tpure, sspure, kset, tset, ksnoc, tsnoc, Kind.av, Twist.sl, Twist.tr, Invar.av, stsize, stget, sttl, stapp, stext, tsspure, Model.sl, Model.tr]
    refine callX_of (q3) ?_
    simp -dsimp -implicitDefEqProofs (disch := first | omega | (simp only [lenr]; done) | (simp only [lenr]; omega)) only [↓amPre, amAll, ↓reduceIte, reduceCtorEq, Nat.reduceEqDiff, Nat.reduceBEq, Nat.reduceAdd, Nat.reduceLeDiff, Nat.reduceSub, Nat.reduceMul, Int.reduceToNat, List.size_toArray, tyF, MM, bu0, ipure, kpure, tpure, sspure, kset, tset, ksnoc, tsnoc, Kind.av, Twist.sl, Twist.tr, Invar.av, stsize, stget, sttl, stapp, stext, tsspure, Model.sl, Model.tr]
    refine piv_go 4 3 0 (by decide +kernel) ?_
    simp -dsimp -implicitDefEqProofs (disch := first | omega | (simp only [lenr]; done) | (simp only [lenr]; omega)) only [↓amPre, amAll, ↓reduceIte, reduceCtorEq, Nat.reduceEqDiff, Nat.reduceBEq, Nat.reduceAdd, Nat.reduceLeDiff, Nat.reduceSub, Nat.reduceMul, Int.reduceToNat, List.size_toArray, tyF, MM, bu0, ipure, kpure, tpure, sspure, kset, tset, ksnoc, tsnoc, Kind.av, Twist.sl, Twist.tr, Invar.av, stsize, stget, sttl, stapp, stext, tsspure, Model.sl, Model.tr, Kind.av]
    refine pvX_of (q4) ?_
    simp -dsimp -implicitDefEqProofs (disch := first | omega | (simp only [lenr]; done) | (simp only [lenr]; omega)) only [↓amPre, amAll, ↓reduceIte, reduceCtorEq, Nat.reduceEqDiff, Nat.reduceBEq, Nat.reduceAdd, Nat.reduceLeDiff, Nat.reduceSub, Nat.reduceMul, Int.reduceToNat, List.size_toArray, tyF, MM, bu0, ipure, kpure, tpure, sspure, kset, tset, ksnoc, tsnoc, Kind.av, Twist.sl, Twist.tr, Invar.av, stsize, stget, sttl, stapp, stext, tsspure, Model.sl, Model.tr, Kind.av]
  | 4, _ =>
    refine ⟨s3, ⟨kr, nm, (⟨t0, d0 :: dr⟩ :: tr) :: mr⟩, ?_, k3, by simp only [List.length_cons] at f1 ⊢; omega, f2, f3, f4⟩
    refine spec_of_awp (M := MM) (np := 1) (fz := false) mixed Try.func93 rfl rfl (by decide) rfl (Nat.le_refl _) (by decide +kernel) (.inl rfl) (by simp only [sigsOk_some, sigsOk_nil, and_true]; rfl) ?_
    simp -dsimp -implicitDefEqProofs (disch := first | omega | (simp only [lenr]; done) | (simp only [lenr]; omega)) only [↓amPre, amAll, ↓reduceIte, reduceCtorEq, Nat.reduceEqDiff, Nat.reduceBEq, Nat.reduceAdd, Nat.reduceLeDiff, Nat.reduceSub, Nat.reduceMul, Int.reduceToNat, List.size_toArray, tyF, MM, bu0, ipure, kpure, tpure, sspure, kset, tset, ksnoc, tsnoc, Kind.av, Twist.sl, Twist.tr, Invar.av, stsize, stget, sttl, stapp, stext, tsspure, Model.sl, Model.tr]
    refine callX_of (q1) ?_
    simp -dsimp -implicitDefEqProofs (disch := first | omega | (simp only [lenr]; done) | (simp only [lenr]; omega)) only [↓amPre, amAll, ↓reduceIte, reduceCtorEq, Nat.reduceEqDiff, Nat.reduceBEq, Nat.reduceAdd, Nat.reduceLeDiff, Nat.reduceSub, Nat.reduceMul, Int.reduceToNat, List.size_toArray, tyF, MM, bu0, ipure, kpure, tpure, sspure, kset, tset, ksnoc, tsnoc, Kind.av, Twist.sl, Twist.tr, Invar.av, stsize, stget, sttl, stapp, stext, tsspure, Model.sl, Model.tr]
    refine callX_of (q2) ?_
    simp -dsimp -implicitDefEqProofs (disch := first | omega | (simp only [lenr]; done) | (simp only [lenr]; omega)) only [↓amPre, amAll, ↓reduceIte, reduceCtorEq, Nat.reduceEqDiff, Nat.reduceBEq, Nat.reduceAdd, Nat.reduceLeDiff, Nat.reduceSub, Nat.reduceMul, Int.reduceToNat, List.size_toArray, tyF, MM, bu0, ipure, kpure, tpure, sspure, kset, tset, ksnoc, tsnoc, Kind.av, Twist.sl, Twist.tr, Invar.av, stsize, stget, sttl, stapp, stext, tsspure, Model.sl, Model.tr]
    refine callX_of (q3) ?_
    simp -dsimp -implicitDefEqProofs (disch := first | omega | (simp only [lenr]; done) | (simp only [lenr]; omega)) only [↓amPre, amAll, ↓reduceIte, reduceCtorEq, Nat.reduceEqDiff, Nat.reduceBEq, Nat.reduceAdd, Nat.reduceLeDiff, Nat.reduceSub, Nat.reduceMul, Int.reduceToNat, List.size_toArray, tyF, MM, bu0, ipure, kpure, tpure, sspure, kset, tset, ksnoc, tsnoc, Kind.av, Twist.sl, Twist.tr, Invar.av, stsize, stget, sttl, stapp, stext, tsspure, Model.sl, Model.tr, pullR]
theorem drawCompile (l : List UInt8) (hl : l.length ≤ 4096) : ∃ m : Model, SpecAt Try.prog 25 [bsl l] m.tr ∧ fewM m := by
  have q0 := newSource l hl
  have k0 : (⟨l, 0, sdK l l.length⟩ : Src).ok := ⟨hl, by simp, by have := sdK_ok l hl l.length; unfold intOk; simp only; omega⟩
  generalize (⟨l, 0, sdK l l.length⟩ : Src) = s0 at q0 k0
  obtain ⟨s1, m, q1, k1, f1⟩ := drawModelAny s0 k0
  refine ⟨m, ?_, f1⟩
  refine spec_of_awp (M := MM) (np := 1) (fz := false) mixed Try.func25 rfl rfl (by decide) rfl (Nat.le_refl _) (by decide +kernel) (.inl rfl) (by first | trivial | simp only [sigsOk_nil, sigsOk_some, sigsOk_none, sig_tr, sig_pt, sig_mt, sig_agg, List.map_cons, List.map_nil, sig1_tr, sig1_pt, sig1_v, and_self, true_and, List.length_map, List.length_set]) ?_
  simp -dsimp -implicitDefEqProofs (disch := first | omega | (simp only [lenr]; done) | (simp only [lenr]; omega)) only [↓amPre, amAll, ↓reduceIte, reduceCtorEq, Nat.reduceEqDiff, Nat.reduceBEq, Nat.reduceAdd, Nat.reduceLeDiff, Nat.reduceSub, Nat.reduceMul, Int.reduceToNat, List.size_toArray, tyF, MM, bu0, ipure, kpure, tpure, sspure, kset, tset, ksnoc, tsnoc, Kind.av, Twist.sl, Twist.tr, Invar.av, stsize, stget, sttl, stapp, stext, tsspure, Model.sl, Model.tr]
  refine callP_of (q0) ?_
  simp -dsimp -implicitDefEqProofs (disch := first | omega | (simp only [lenr]; done) | (simp only [lenr]; omega)) only [↓amPre, amAll, ↓reduceIte, reduceCtorEq, Nat.reduceEqDiff, Nat.reduceBEq, Nat.reduceAdd, Nat.reduceLeDiff, Nat.reduceSub, Nat.reduceMul, Int.reduceToNat, List.size_toArray, tyF, MM, bu0, ipure, kpure, tpure, sspure, kset, tset, ksnoc, tsnoc, Kind.av, Twist.sl, Twist.tr, Invar.av, stsize, stget, sttl, stapp, stext, tsspure, Model.sl, Model.tr]
  refine callX_of (q1) ?_
  simp -dsimp -implicitDefEqProofs (disch := first | omega | (simp only [lenr]; done) | (simp only [lenr]; omega)) only [↓amPre, amAll, ↓reduceIte, reduceCtorEq, Nat.reduceEqDiff, Nat.reduceBEq, Nat.reduceAdd, Nat.reduceLeDiff, Nat.reduceSub, Nat.reduceMul, Int.reduceToNat, List.size_toArray, tyF, MM, bu0, ipure, kpure, tpure, sspure, kset, tset, ksnoc, tsnoc, Kind.av, Twist.sl, Twist.tr, Invar.av, stsize, stget, sttl, stapp, stext, tsspure, Model.sl, Model.tr]
end Draws
end Go.AM
set_option maxRecDepth 8000
namespace Go.AM
namespace Draws
open Go.Proofs
theorem likeInts (a b : List Int) (ha : a.length ≤ 1099511627776) : SpecAt Try.prog 33 [isl a, isl b] (.bl (decide (a = b))) := by
  refine spec_of_awp (M := MM) (np := 2) (fz := true) mixed Try.func33 rfl rfl (by decide) rfl (Nat.le_refl _) (by decide +kernel) (.inr ⟨rfl, rfl⟩) trivial ?_
  simp -dsimp -implicitDefEqProofs (disch := first | omega | (simp only [lenr]; done) | (simp only [lenr]; omega)) only [↓amPre, amAll, ↓reduceIte, reduceCtorEq, Nat.reduceEqDiff, Nat.reduceBEq, Nat.reduceAdd, Nat.reduceLeDiff, Nat.reduceSub, Nat.reduceMul, Int.reduceToNat, List.size_toArray, tyF, MM, bu0]
  refine ifP_mk ?_ ?_ <;> intro h1
  · simp -dsimp -implicitDefEqProofs (disch := first | omega | (simp only [lenr]; done) | (simp only [lenr]; omega)) only [↓amPre, amAll, ↓reduceIte, reduceCtorEq, Nat.reduceEqDiff, Nat.reduceBEq, Nat.reduceAdd, Nat.reduceLeDiff, Nat.reduceSub, Nat.reduceMul, Int.reduceToNat, List.size_toArray, tyF, MM, bu0, h1]
    have : ¬ a = b := by intro e; subst e; simp at h1
    simp [this]
  simp -dsimp -implicitDefEqProofs (disch := first | omega | (simp only [lenr]; done) | (simp only [lenr]; omega)) only [↓amPre, amAll, ↓reduceIte, reduceCtorEq, Nat.reduceEqDiff, Nat.reduceBEq, Nat.reduceAdd, Nat.reduceLeDiff, Nat.reduceSub, Nat.reduceMul, Int.reduceToNat, List.size_toArray, tyF, MM, bu0, h1]
  have hab : a.length = b.length := by simp at h1; omega
  refine awp_loop (fun k st => k ≤ a.length ∧ st.fr 5 = .i64 k ∧ st.fr 0 = isl a ∧ st.fr 1 = isl b ∧ a.take k = b.take k) (a.length) ?_ ?_
  · simp -dsimp -implicitDefEqProofs (disch := first | omega | (simp only [lenr]; done) | (simp only [lenr]; omega)) only [↓amPre, amAll, ↓reduceIte, reduceCtorEq, Nat.reduceEqDiff, Nat.reduceBEq, Nat.reduceAdd, Nat.reduceLeDiff, Nat.reduceSub, Nat.reduceMul, Int.reduceToNat, List.size_toArray, tyF, MM, bu0]
    repeat' (first | omega | rfl | exact i64c (by omega) | exact vic (by omega) | apply And.intro)
  rintro k st _ ⟨hk, f5, f0, f1, ek⟩
  by_cases hlt : k < a.length
  · simp -dsimp -implicitDefEqProofs (disch := first | omega | (simp only [lenr]; done) | (simp only [lenr]; omega)) only [↓amPre, amAll, ↓reduceIte, reduceCtorEq, Nat.reduceEqDiff, Nat.reduceBEq, Nat.reduceAdd, Nat.reduceLeDiff, Nat.reduceSub, Nat.reduceMul, Int.reduceToNat, List.size_toArray, tyF, MM, bu0, f5, f0, f1]
    refine ifP_mk ?_ ?_ <;> intro w1
    · simp -dsimp -implicitDefEqProofs (disch := first | omega | (simp only [lenr]; done) | (simp only [lenr]; omega)) only [↓amPre, amAll, ↓reduceIte, reduceCtorEq, Nat.reduceEqDiff, Nat.reduceBEq, Nat.reduceAdd, Nat.reduceLeDiff, Nat.reduceSub, Nat.reduceMul, Int.reduceToNat, List.size_toArray, tyF, MM, bu0, f5, f0, f1, w1]
      have hne : ¬ a = b := by
        intro e; subst e; simp at w1
      simp [hne]
    · simp -dsimp -implicitDefEqProofs (disch := first | omega | (simp only [lenr]; done) | (simp only [lenr]; omega)) only [↓amPre, amAll, ↓reduceIte, reduceCtorEq, Nat.reduceEqDiff, Nat.reduceBEq, Nat.reduceAdd, Nat.reduceLeDiff, Nat.reduceSub, Nat.reduceMul, Int.reduceToNat, List.size_toArray, tyF, MM, bu0, f5, f0, f1, w1]
      simp only [bne_eq_false_iff_eq] at w1
      repeat' (first | omega | rfl | exact i64c (by omega) | exact vic (by omega) | exact (take_eq_iff 0 k hlt (by omega)).2 ⟨ek, w1⟩ | apply And.intro)
  · have hke : k = a.length := by omega
    subst hke
    simp -dsimp -implicitDefEqProofs (disch := first | omega | (simp only [lenr]; done) | (simp only [lenr]; omega)) only [↓amPre, amAll, ↓reduceIte, reduceCtorEq, Nat.reduceEqDiff, Nat.reduceBEq, Nat.reduceAdd, Nat.reduceLeDiff, Nat.reduceSub, Nat.reduceMul, Int.reduceToNat, List.size_toArray, tyF, MM, bu0, f5, f0, f1]
    simp [eq_of_takes hab ek]
end Draws
end Go.AM
set_option maxRecDepth 8000
namespace Go.AM
namespace Dice
open Go.Proofs
def MM : FuncId → List Bool := fun f => if f = 20 then [true, false] else if f = 65 then [true] else []
structure Dc where
  b : List UInt8
  i : Nat
  h : Int
abbrev u64 (n : Int) : AV := .v (.int .u64 n)
abbrev bsl (l : List UInt8) : AV := .sl 1 (l.map fun x => .u8 x.toNat)
abbrev Dc.pt (s : Dc) : AV := .pt 3 (.agg [bsl s.b, .i64 s.i, u64 s.h])
abbrev Dc.ok (s : Dc) : Prop := s.b.length ≤ 4096 ∧ s.i ≤ s.b.length
instance : Thing UInt8 := ⟨⟩
theorem wrapU_id {x : Int} (h : 0 ≤ x ∧ x < 18446744073709551616) : IntKind.u64.wrap x = x := by
  unfold IntKind.wrap
  simp only [IntKind.signed, IntKind.bits, Bool.false_and, Bool.false_eq_true, if_false]
  exact Int.emod_eq_of_lt h.1 h.2
theorem andU (a : Int) : 0 ≤ bitsI .and .u64 a 16777215 ∧ bitsI .and .u64 a 16777215 ≤ 16777215 := by
  have h : (BitVec.ofInt 64 a &&& BitVec.ofInt 64 16777215).toNat ≤ 16777215 := by
    rw [BitVec.toNat_and]
    exact Nat.le_trans Nat.and_le_right (by decide)
  have e : bitsI .and .u64 a 16777215 = ((BitVec.ofInt 64 a &&& BitVec.ofInt 64 16777215).toNat : Int) := by
    show IntKind.u64.wrap ((BitVec.ofInt 64 a &&& BitVec.ofInt 64 16777215).toNat : Int) = _
    apply wrapU_id; omega
  rw [e]; omega
def nxH (h : Int) : Int := IntKind.u64.wrap (IntKind.u64.wrap (h * 6364136223846793005) + 1442695040888963407)
theorem dbelow (s : Dc) (n : Int) (h : s.ok) (hn : 1 ≤ n ∧ n ≤ 1000000) : ∃ (s' : Dc) (x : Int), SpecX Try.prog 20 [s.pt, .i64 n] [some s'.pt] (.i64 x) ∧ s'.ok ∧ 0 ≤ x ∧ x < n := by
  have h1 := h.1
  have h2 := h.2
  have hn' : nxH s.h = IntKind.u64.wrap (IntKind.u64.wrap (s.h * 6364136223846793005) + 1442695040888963407) := rfl
  have ha := andU ((nxH s.h).fdiv (2 ^ (min 33 64)))
  obtain ⟨y, hy⟩ : ∃ y, y = bitsI .and .u64 ((nxH s.h).fdiv (2 ^ (min 33 64))) 16777215 := ⟨_, rfl⟩
  rw [← hy] at ha
  have e1 : IntKind.i64.wrap y = y := wrap64_id (by omega)
  have hne : n ≠ 0 := by omega
  have hb : IntKind.u64.bits = 64 := rfl
  by_cases hk : s.i < s.b.length
  · have hu : (s.b.getD s.i default).toNat < 256 := (s.b.getD s.i default).toNat_lt
    have e2 : IntKind.i64.wrap ((s.b.getD s.i default).toNat : Int) = (s.b.getD s.i default).toNat := wrap64_id (by omega)
    have e3 : IntKind.i64.wrap (y + ((s.b.getD s.i default).toNat : Int)) = y + ((s.b.getD s.i default).toNat : Int) := wrap64_id (by omega)
    refine ⟨⟨s.b, s.i + 1, nxH s.h⟩, (y + ((s.b.getD s.i default).toNat : Int)).tmod n, ?_, ⟨h1, hk⟩, Int.tmod_nonneg _ (by omega), Int.tmod_lt_of_pos _ (by omega)⟩
    refine spec_of_awp (M := MM) (np := 2) (fz := false) mixed Try.func20 rfl rfl (by decide) rfl (Nat.le_refl _) (by decide +kernel) (.inl rfl) (by simp only [sigsOk_some, sigsOk_nil, and_true]; rfl) ?_
    simp -dsimp -implicitDefEqProofs (disch := first | omega | (simp only [lenr]; done) | (simp only [lenr]; omega)) only [↓amPre, amAll, ↓reduceIte, reduceCtorEq, Nat.reduceEqDiff, Nat.reduceBEq, Nat.reduceAdd, Nat.reduceLeDiff, Nat.reduceSub, Nat.reduceMul, Int.reduceToNat, List.size_toArray, tyF, MM, bu0, ipure, kpure, tpure, sspure, kset, tset, ksnoc, tsnoc, Kind.av, Twist.sl, Twist.tr, Invar.av, stsize, stget, sttl, stapp, stext, tsspure, Model.sl, Model.tr, vset, vsnoc, vpure, Puzz.sl, Puzz.tr, hb, ← hn', ← hy, hne, e1, e2, e3]
  · refine ⟨⟨s.b, s.i, nxH s.h⟩, y.tmod n, ?_, ⟨h1, h2⟩, Int.tmod_nonneg _ (by omega), Int.tmod_lt_of_pos _ (by omega)⟩
    refine spec_of_awp (M := MM) (np := 2) (fz := false) mixed Try.func20 rfl rfl (by decide) rfl (Nat.le_refl _) (by decide +kernel) (.inl rfl) (by simp only [sigsOk_some, sigsOk_nil, and_true]; rfl) ?_
    simp -dsimp -implicitDefEqProofs (disch := first | omega | (simp only [lenr]; done) | (simp only [lenr]; omega)) only [↓amPre, amAll, ↓reduceIte, reduceCtorEq, Nat.reduceEqDiff, Nat.reduceBEq, Nat.reduceAdd, Nat.reduceLeDiff, Nat.reduceSub, Nat.reduceMul, Int.reduceToNat, List.size_toArray, tyF, MM, bu0, ipure, kpure, tpure, sspure, kset, tset, ksnoc, tsnoc, Kind.av, Twist.sl, Twist.tr, Invar.av, stsize, stget, sttl, stapp, stext, tsspure, Model.sl, Model.tr, vset, vsnoc, vpure, Puzz.sl, Puzz.tr, hb, ← hn', ← hy, hne, e1]
def rlK (l : List UInt8) (h : Int) : Nat → Int
  | 0 => IntKind.u64.wrap (IntKind.u64.wrap (h * 7919) + IntKind.u64.wrap l.length)
  | k + 1 => IntKind.u64.wrap (IntKind.u64.wrap (IntKind.u64.wrap (rlK l h k * 1099511628211) + IntKind.u64.wrap (l.getD k default).toNat) + 3)
theorem droll (l : List UInt8) (h : Int) (hl : l.length ≤ 4096) : SpecAt Try.prog 18 [bsl l, u64 h] (Dc.pt ⟨l, 0, rlK l h l.length⟩) := by
  have h0 : rlK l h 0 = IntKind.u64.wrap (IntKind.u64.wrap (h * 7919) + IntKind.u64.wrap l.length) := rfl
  refine spec_of_awp (M := MM) (np := 2) (fz := false) mixed Try.func18 rfl rfl (by decide) rfl (Nat.le_refl _) (by decide +kernel) (.inl rfl) (by first | trivial | simp only [sigsOk_nil, sigsOk_some, sigsOk_none, sig_tr, sig_pt, sig_mt, sig_agg, List.map_cons, List.map_nil, sig1_tr, sig1_pt, sig1_v, and_self, true_and, List.length_map, List.length_set]) ?_
  simp -dsimp -implicitDefEqProofs (disch := first | omega | (simp only [lenr]; done) | (simp only [lenr]; omega)) only [↓amPre, amAll, ↓reduceIte, reduceCtorEq, Nat.reduceEqDiff, Nat.reduceBEq, Nat.reduceAdd, Nat.reduceLeDiff, Nat.reduceSub, Nat.reduceMul, Int.reduceToNat, List.size_toArray, tyF, MM, bu0, ipure, kpure, tpure, sspure, kset, tset, ksnoc, tsnoc, Kind.av, Twist.sl, Twist.tr, Invar.av, stsize, stget, sttl, stapp, stext, tsspure, Model.sl, Model.tr, vset, vsnoc, vpure, Puzz.sl, Puzz.tr, ← h0]
  refine awp_loop (fun k st => k ≤ l.length ∧ st.fr 6 = .i64 k ∧ st.fr 5 = .loc 15 [] 0 0 ∧ st.fr 0 = bsl l ∧ st.mem 15 = some (Dc.pt ⟨l, 0, rlK l h k⟩)) (l.length) ?_ ?_
  · simp -dsimp -implicitDefEqProofs (disch := first | omega | (simp only [lenr]; done) | (simp only [lenr]; omega)) only [↓amPre, amAll, ↓reduceIte, reduceCtorEq, Nat.reduceEqDiff, Nat.reduceBEq, Nat.reduceAdd, Nat.reduceLeDiff, Nat.reduceSub, Nat.reduceMul, Int.reduceToNat, List.size_toArray, tyF, MM, bu0, ipure, kpure, tpure, sspure, kset, tset, ksnoc, tsnoc, Kind.av, Twist.sl, Twist.tr, Invar.av, stsize, stget, sttl, stapp, stext, tsspure, Model.sl, Model.tr, vset, vsnoc, vpure, Puzz.sl, Puzz.tr, ← h0]
    exact ⟨Nat.zero_le _, rfl, rfl⟩
  rintro k st _ ⟨hk, f6, f5, f0, m15⟩
  have hs1 : rlK l h (k + 1) = IntKind.u64.wrap (IntKind.u64.wrap (IntKind.u64.wrap (rlK l h k * 1099511628211) + IntKind.u64.wrap (l.getD k default).toNat) + 3) := rfl
  by_cases hlt : k < l.length
  · simp -dsimp -implicitDefEqProofs (disch := first | omega | (simp only [lenr]; done) | (simp only [lenr]; omega)) only [↓amPre, amAll, ↓reduceIte, reduceCtorEq, Nat.reduceEqDiff, Nat.reduceBEq, Nat.reduceAdd, Nat.reduceLeDiff, Nat.reduceSub, Nat.reduceMul, Int.reduceToNat, List.size_toArray, tyF, MM, bu0, ipure, kpure, tpure, sspure, kset, tset, ksnoc, tsnoc, Kind.av, Twist.sl, Twist.tr, Invar.av, stsize, stget, sttl, stapp, stext, tsspure, Model.sl, Model.tr, vset, vsnoc, vpure, Puzz.sl, Puzz.tr, f6, f5, f0, m15, ← hs1]
    repeat' (first | omega | rfl | exact i64c (by omega) | exact vic (by omega) | apply And.intro)
  · have hke : k = l.length := by omega
    subst hke
    simp -dsimp -implicitDefEqProofs (disch := first | omega | (simp only [lenr]; done) | (simp only [lenr]; omega)) only [↓amPre, amAll, ↓reduceIte, reduceCtorEq, Nat.reduceEqDiff, Nat.reduceBEq, Nat.reduceAdd, Nat.reduceLeDiff, Nat.reduceSub, Nat.reduceMul, Int.reduceToNat, List.size_toArray, tyF, MM, bu0, ipure, kpure, tpure, sspure, kset, tset, ksnoc, tsnoc, Kind.av, Twist.sl, Twist.tr, Invar.av, stsize, stget, sttl, stapp, stext, tsspure, Model.sl, Model.tr, vset, vsnoc, vpure, Puzz.sl, Puzz.tr, f6, f5, f0, m15]
theorem dbig (l : List UInt8) : SpecAt Try.prog 13 [bsl l] (.bl (decide ((4096 : Int) < l.length))) := by
  refine spec_of_awp (M := MM) (np := 1) (fz := true) mixed Try.func13 rfl rfl (by decide) rfl (Nat.le_refl _) (by decide +kernel) (.inr ⟨rfl, rfl⟩) trivial ?_
  simp -dsimp -implicitDefEqProofs (disch := first | omega | (simp only [lenr]; done) | (simp only [lenr]; omega)) only [↓amPre, amAll, ↓reduceIte, reduceCtorEq, Nat.reduceEqDiff, Nat.reduceBEq, Nat.reduceAdd, Nat.reduceLeDiff, Nat.reduceSub, Nat.reduceMul, Int.reduceToNat, List.size_toArray, tyF, MM, bu0, ipure, kpure, tpure, sspure, kset, tset, ksnoc, tsnoc, Kind.av, Twist.sl, Twist.tr, Invar.av, stsize, stget, sttl, stapp, stext, tsspure, Model.sl, Model.tr, vset, vsnoc, vpure, Puzz.sl, Puzz.tr]
noncomputable def dS (s : Dc) (n : Int) : Dc := open Classical in if h : s.ok ∧ 1 ≤ n ∧ n ≤ 1000000 then (dbelow s n h.1 h.2).choose else s
noncomputable def dX (s : Dc) (n : Int) : Int := open Classical in if h : s.ok ∧ 1 ≤ n ∧ n ≤ 1000000 then (dbelow s n h.1 h.2).choose_spec.choose else 0
theorem dF (s : Dc) (n : Int) (h : s.ok) (hn : 1 ≤ n ∧ n ≤ 1000000) : SpecX Try.prog 20 [s.pt, .i64 n] [some (dS s n).pt] (.i64 (dX s n)) ∧ (dS s n).ok ∧ 0 ≤ dX s n ∧ dX s n < n := by
  have := (dbelow s n h hn).choose_spec.choose_spec
  unfold dS dX
  rw [dif_pos ⟨h, hn⟩, dif_pos ⟨h, hn⟩]
  exact this
end Dice
end Go.AM
namespace Go.AM
/-! the solved state, and what a word of moves does to it -/
theorem solved_at {ks : List Kind} {i : Nat} (hi : i < ks.length) : (ks.map solvedK).getD i default = solvedK (ks.getD i default) := by
  simp [List.getD, hi]
theorem solved_ok {ks : List Kind} (h : kindsOk ks) : psOk ks (ks.map solvedK) := by
  refine ⟨h, by simp, fun i hi => ?_⟩
  rw [solved_at hi]
  obtain ⟨⟨c1, c2⟩, o1, o2⟩ := h.2.1 _ (mem_getD ks i default hi)
  generalize ks.getD i default = k at *
  refine ⟨by simp only [solvedK, runI_len]; omega, by simp only [solvedK, List.length_replicate]; omega, run_perm (by omega) (by omega), fun x hx => ?_⟩
  have := List.eq_of_mem_replicate hx
  omega
theorem permOf_solved {ks : List Kind} (h : kindsOk ks) : permOf ks (ks.map solvedK) = runI 0 (bas ks ks.length) := by
  have ps := solved_ok h
  have hl := permOf_length ps
  refine ext_getD 0 (by rw [hl, runI_len]) fun x hx => ?_
  rw [hl] at hx
  rw [runI_get _ _ _ hx]
  obtain ⟨k, i, j, c, o, hk, hc, ho, hi, hj, rfl⟩ := bas_surj h ks.length (Nat.le_refl _) x hx
  have hg := permL_get ps ks.length (Nat.le_refl _) k i j c o hk hc ho hi hj
  rw [solved_at hk] at hg
  have e1 : (solvedK (ks.getD k default)).to.getD i 0 = (i : Int) := by
    rw [solvedK, hc, Int.toNat_natCast, runI_get _ _ _ hi]; omega
  have e2 : (solvedK (ks.getD k default)).by'.getD i 0 = 0 := by
    rw [solvedK, hc, Int.toNat_natCast]; simp [List.getD, hi]
  rw [e1, e2, Int.add_zero, Int.tmod_eq_of_lt (by omega) (by omega)] at hg
  unfold permOf
  rw [hg]
  have e3 : ((i * o : Nat) : Int) = (i : Int) * o := by simp
  omega
theorem effK_app (n : Int) (mv : List (List Int)) (w v : List Int) : ∀ k, k ≤ w.length → effK n mv (w ++ v) k = effK n mv w k
  | 0, _ => rfl
  | k + 1, hk => by
    rw [effK, effK, effK_app n mv w v k (by omega), getD_app_l _ _ _ _ (by omega)]
theorem effK_snoc (n : Int) (mv : List (List Int)) (w : List Int) (x : Int) : effK n mv (w ++ [x]) (w ++ [x]).length = compI (effK n mv w w.length) (letP mv x) := by
  have e : (w ++ [x]).length = w.length + 1 := by simp
  rw [e, effK, effK_app n mv w [x] w.length (Nat.le_refl _)]
  have := getD_app_r w [x] 0 0
  rw [Nat.add_zero] at this
  rw [this]; rfl
theorem letP_pos (mv : List (List Int)) (i : Nat) : letP mv ((i : Int) + 1) = mv.getD i default := by
  unfold letP
  rw [if_pos (by omega)]
  congr 1; omega
end Go.AM

/-
  CONTRACTS of functions of the program, and what they compute, by content.
-/
import Derived.Test.YtenlmhbkigfjeaaCB0
import Derived.Test.YtenlmhbkigfjeaaM2SD
import Derived.Sort.Grow
import Derived.Deep.Draws
import Derived.Lib.LaidTab
import Derived.Sort.Row
import Derived.Test.YtenlmhbkigfjeaaM2Facts
import Derived.Shelf.SlicesE.DeleteFunc
import Derived.Shelf.GgClosure.Gives
import Derived.Lib.SliceRun
import Derived.Shelf.SortM.Plain
import Derived.Shelf.SortM.SortNone
set_option linter.unusedVariables false
set_option linter.unusedSimpArgs false
set_option maxRecDepth 8000
namespace Go.AM
open Go.Proofs
instance : Thing (List Twist) := ⟨⟩
abbrev smallTS (l : List (List Twist)) : Prop := l.length ≤ 1099511627776 ∧ ∀ s ∈ l, smallT s
abbrev wfTS (l : List (List Twist)) : Prop := l.length ≤ 9223372036854775807 ∧ ∀ s ∈ l, wfT s
theorem szTwistSS (l : List (List Twist)) (k : Int) (h0 : 0 ≤ k) (h1 : k ≤ 1048576) (hl : wfTS l) : SpecAt Try.prog 106 [tssl l, .i64 k] (.i64 (szR k (sizeLL l))) := by
  have hll := sizeLL_len l
  have hll0 := hl.1
  refine spec_of_awp (M := MM) (np := 2) (fz := true) mixed Try.func106 rfl rfl (by decide) rfl (Nat.le_refl _) (by decide +kernel) (.inr ⟨rfl, rfl⟩) trivial ?_
  simp -dsimp -implicitDefEqProofs (disch := first | omega | (simp only [lenr]; done) | (simp only [lenr]; omega)) only [↓amPre, amAll, ↓reduceIte, reduceCtorEq, Nat.reduceEqDiff, Nat.reduceBEq, Nat.reduceAdd, Nat.reduceLeDiff, Nat.reduceSub, Nat.reduceMul, Int.reduceToNat, List.size_toArray, tyF, MM, bu0, ipure, kpure, tpure, sspure, kset, tset, ksnoc, tsnoc, Kind.av, Twist.sl, Twist.tr, Invar.av, stsize, stget, sttl, stapp, stext, tsspure, Model.sl, Model.tr]
  refine ifP_mk ?_ ?_ <;> intro c1
  · simp -dsimp -implicitDefEqProofs (disch := first | omega | (simp only [lenr]; done) | (simp only [lenr]; omega)) only [↓amPre, amAll, ↓reduceIte, reduceCtorEq, Nat.reduceEqDiff, Nat.reduceBEq, Nat.reduceAdd, Nat.reduceLeDiff, Nat.reduceSub, Nat.reduceMul, Int.reduceToNat, List.size_toArray, tyF, MM, bu0, ipure, kpure, tpure, sspure, kset, tset, ksnoc, tsnoc, Kind.av, Twist.sl, Twist.tr, Invar.av, stsize, stget, sttl, stapp, stext, tsspure, Model.sl, Model.tr, c1]
    simp at c1
    rw [szR_neg (by omega)]
  simp at c1
  simp -dsimp -implicitDefEqProofs (disch := first | omega | (simp only [lenr]; done) | (simp only [lenr]; omega)) only [↓amPre, amAll, ↓reduceIte, reduceCtorEq, Nat.reduceEqDiff, Nat.reduceBEq, Nat.reduceAdd, Nat.reduceLeDiff, Nat.reduceSub, Nat.reduceMul, Int.reduceToNat, List.size_toArray, tyF, MM, bu0, ipure, kpure, tpure, sspure, kset, tset, ksnoc, tsnoc, Kind.av, Twist.sl, Twist.tr, Invar.av, stsize, stget, sttl, stapp, stext, tsspure, Model.sl, Model.tr, lt_false c1]
  refine awp_loop (fun j st => j ≤ l.length ∧ st.fr 5 = .i64 j ∧ st.fr 1 = .i64 (k - l.length + j - sizeLL (l.take j)) ∧ st.fr 0 = tssl l ∧ 0 ≤ k - l.length + j - sizeLL (l.take j)) (l.length) ?_ ?_
  · simp -dsimp -implicitDefEqProofs (disch := first | omega | (simp only [lenr]; done) | (simp only [lenr]; omega)) only [↓amPre, amAll, ↓reduceIte, reduceCtorEq, Nat.reduceEqDiff, Nat.reduceBEq, Nat.reduceAdd, Nat.reduceLeDiff, Nat.reduceSub, Nat.reduceMul, Int.reduceToNat, List.size_toArray, tyF, MM, bu0, ipure, kpure, tpure, sspure, kset, tset, ksnoc, tsnoc, Kind.av, Twist.sl, Twist.tr, Invar.av, stsize, stget, sttl, stapp, stext, tsspure, Model.sl, Model.tr]
    simp [sizeLL]; omega
  rintro j st _ ⟨hj, f5, f1, f0, ej⟩
  have hge := sizeLL_take_ge l j hj
  by_cases hlt : j < l.length
  · have ct := sizeLL_take l j hlt
    have hw := hl.2 _ (mem_getD l j default hlt)
    simp -dsimp -implicitDefEqProofs (disch := first | omega | (simp only [lenr]; done) | (simp only [lenr]; omega)) only [↓amPre, amAll, ↓reduceIte, reduceCtorEq, Nat.reduceEqDiff, Nat.reduceBEq, Nat.reduceAdd, Nat.reduceLeDiff, Nat.reduceSub, Nat.reduceMul, Int.reduceToNat, List.size_toArray, tyF, MM, bu0, ipure, kpure, tpure, sspure, kset, tset, ksnoc, tsnoc, Kind.av, Twist.sl, Twist.tr, Invar.av, stsize, stget, sttl, stapp, stext, tsspure, Model.sl, Model.tr, f5, f1, f0]
    refine callP_of (szTwistS (l.getD j default) _ ej (by omega) hw.1 hw.2) ?_
    have cl := sizeLL_le l (j + 1)
    have hrest := sizeLL_append (l.take (j + 1)) (l.drop (j + 1))
    rw [List.take_append_drop] at hrest
    have hdr := sizeLL_len (l.drop (j + 1))
    rw [List.length_drop] at hdr
    by_cases c2 : k - l.length + j - sizeLL (l.take j) - sizeL (l.getD j default) < 0
    · simp -dsimp -implicitDefEqProofs (disch := first | omega | (simp only [lenr]; done) | (simp only [lenr]; omega)) only [↓amPre, amAll, ↓reduceIte, reduceCtorEq, Nat.reduceEqDiff, Nat.reduceBEq, Nat.reduceAdd, Nat.reduceLeDiff, Nat.reduceSub, Nat.reduceMul, Int.reduceToNat, List.size_toArray, tyF, MM, bu0, ipure, kpure, tpure, sspure, kset, tset, ksnoc, tsnoc, Kind.av, Twist.sl, Twist.tr, Invar.av, stsize, stget, sttl, stapp, stext, tsspure, Model.sl, Model.tr, f5, f1, f0, szR_neg c2]
      rw [szR_neg (by omega)]
    · simp -dsimp -implicitDefEqProofs (disch := first | omega | (simp only [lenr]; done) | (simp only [lenr]; omega)) only [↓amPre, amAll, ↓reduceIte, reduceCtorEq, Nat.reduceEqDiff, Nat.reduceBEq, Nat.reduceAdd, Nat.reduceLeDiff, Nat.reduceSub, Nat.reduceMul, Int.reduceToNat, List.size_toArray, tyF, MM, bu0, ipure, kpure, tpure, sspure, kset, tset, ksnoc, tsnoc, Kind.av, Twist.sl, Twist.tr, Invar.av, stsize, stget, sttl, stapp, stext, tsspure, Model.sl, Model.tr, f5, f1, f0, szR_pos (Int.not_lt.1 c2)]
      repeat' (first | omega | rfl | exact i64c (by omega) | exact vic (by omega) | apply And.intro)
  · have hj' : j = l.length := by omega
    subst hj'
    rw [List.take_length] at *
    simp -dsimp -implicitDefEqProofs (disch := first | omega | (simp only [lenr]; done) | (simp only [lenr]; omega)) only [↓amPre, amAll, ↓reduceIte, reduceCtorEq, Nat.reduceEqDiff, Nat.reduceBEq, Nat.reduceAdd, Nat.reduceLeDiff, Nat.reduceSub, Nat.reduceMul, Int.reduceToNat, List.size_toArray, tyF, MM, bu0, ipure, kpure, tpure, sspure, kset, tset, ksnoc, tsnoc, Kind.av, Twist.sl, Twist.tr, Invar.av, stsize, stget, sttl, stapp, stext, tsspure, Model.sl, Model.tr, f5, f1, f0]
    rw [szR_pos (by omega)]
    exact vic (by omega)
theorem toTwistSS (l : List (List Twist)) (hl : smallTS l) : SpecAt Try.prog 110 [tssl l] (tsst l) := by
  have hl0 := hl.1
  refine spec_of_awp (M := MM) (np := 1) (fz := false) mixed Try.func110 rfl rfl (by decide) rfl (Nat.le_refl _) (by decide +kernel) (.inl rfl) (by first | trivial | simp only [sigsOk_nil, sigsOk_some, sigsOk_none, sig_tr, sig_pt, sig_mt, sig_agg, List.map_cons, List.map_nil, sig1_tr, sig1_pt, sig1_v, and_self, true_and, List.length_map, List.length_set]) ?_
  simp -dsimp -implicitDefEqProofs (disch := first | omega | (simp only [lenr]; done) | (simp only [lenr]; omega)) only [↓amPre, amAll, ↓reduceIte, reduceCtorEq, Nat.reduceEqDiff, Nat.reduceBEq, Nat.reduceAdd, Nat.reduceLeDiff, Nat.reduceSub, Nat.reduceMul, Int.reduceToNat, List.size_toArray, tyF, MM, bu0, ipure, kpure, tpure, sspure, kset, tset, ksnoc, tsnoc, Kind.av, Twist.sl, Twist.tr, Invar.av, stsize, stget, sttl, stapp, stext, tsspure, Model.sl, Model.tr]
  refine awp_loop (fun j st => j ≤ l.length ∧ st.fr 4 = .i64 j ∧ st.fr 0 = tssl l ∧ st.fr 3 = .ref 7 [] 1 0 l.length ∧ st.mem 7 = some (.tr 1 (mixL (l.map ttr) (List.replicate l.length .nilsl) j))) (l.length) ?_ ?_
  · simp -dsimp -implicitDefEqProofs (disch := first | omega | (simp only [lenr]; done) | (simp only [lenr]; omega)) only [↓amPre, amAll, ↓reduceIte, reduceCtorEq, Nat.reduceEqDiff, Nat.reduceBEq, Nat.reduceAdd, Nat.reduceLeDiff, Nat.reduceSub, Nat.reduceMul, Int.reduceToNat, List.size_toArray, tyF, MM, bu0, ipure, kpure, tpure, sspure, kset, tset, ksnoc, tsnoc, Kind.av, Twist.sl, Twist.tr, Invar.av, stsize, stget, sttl, stapp, stext, tsspure, Model.sl, Model.tr, mixL_zero]
    simp
  rintro j st _ ⟨hj, f4, f0, f3, m7⟩
  have hr : (l.map ttr).length = (List.replicate l.length AV.nilsl).length := by simp
  have hm := mixL_len (l.map ttr) (List.replicate l.length AV.nilsl) j hr
  rw [List.length_replicate] at hm
  by_cases hlt : j < l.length
  · have hs := mixL_set (l.map ttr) (List.replicate l.length AV.nilsl) j .any hr (by simp; omega)
    rw [gm _ _ _ hlt] at hs
    obtain ⟨e1, e2⟩ := hl.2 _ (mem_getD l j default hlt)
    simp -dsimp -implicitDefEqProofs (disch := first | omega | (simp only [lenr]; done) | (simp only [lenr]; omega)) only [↓amPre, amAll, ↓reduceIte, reduceCtorEq, Nat.reduceEqDiff, Nat.reduceBEq, Nat.reduceAdd, Nat.reduceLeDiff, Nat.reduceSub, Nat.reduceMul, Int.reduceToNat, List.size_toArray, tyF, MM, bu0, ipure, kpure, tpure, sspure, kset, tset, ksnoc, tsnoc, Kind.av, Twist.sl, Twist.tr, Invar.av, stsize, stget, sttl, stapp, stext, tsspure, Model.sl, Model.tr, f4, f0, f3, m7, hm]
    refine callP_of (toTwistS (l.getD j default) e1 e2) ?_
    simp -dsimp -implicitDefEqProofs (disch := first | omega | (simp only [lenr]; done) | (simp only [lenr]; omega)) only [↓amPre, amAll, ↓reduceIte, reduceCtorEq, Nat.reduceEqDiff, Nat.reduceBEq, Nat.reduceAdd, Nat.reduceLeDiff, Nat.reduceSub, Nat.reduceMul, Int.reduceToNat, List.size_toArray, tyF, MM, bu0, ipure, kpure, tpure, sspure, kset, tset, ksnoc, tsnoc, Kind.av, Twist.sl, Twist.tr, Invar.av, stsize, stget, sttl, stapp, stext, tsspure, Model.sl, Model.tr, f4, f0, f3, m7, hm, hs]
    repeat' (first | omega | rfl | exact i64c (by omega) | exact vic (by omega) | apply And.intro)
  · have hj' : j = l.length := by omega
    subst hj'
    have := mixL_all (l.map ttr) (List.replicate l.length AV.nilsl) l.length (by simp) (by simp)
    simp -dsimp -implicitDefEqProofs (disch := first | omega | (simp only [lenr]; done) | (simp only [lenr]; omega)) only [↓amPre, amAll, ↓reduceIte, reduceCtorEq, Nat.reduceEqDiff, Nat.reduceBEq, Nat.reduceAdd, Nat.reduceLeDiff, Nat.reduceSub, Nat.reduceMul, Int.reduceToNat, List.size_toArray, tyF, MM, bu0, ipure, kpure, tpure, sspure, kset, tset, ksnoc, tsnoc, Kind.av, Twist.sl, Twist.tr, Invar.av, stsize, stget, sttl, stapp, stext, tsspure, Model.sl, Model.tr, f4, f0, f3, m7, hm, this]
theorem eqTwistSS (a b : List (List Twist)) (ha : smallTS a) : SpecAt Try.prog 113 [tssl a, tssl b] (.bl (decide (a = b))) := by
  have ha0 := ha.1
  refine spec_of_awp (M := MM) (np := 2) (fz := true) mixed Try.func113 rfl rfl (by decide) rfl (Nat.le_refl _) (by decide +kernel) (.inr ⟨rfl, rfl⟩) trivial ?_
  simp -dsimp -implicitDefEqProofs (disch := first | omega | (simp only [lenr]; done) | (simp only [lenr]; omega)) only [↓amPre, amAll, ↓reduceIte, reduceCtorEq, Nat.reduceEqDiff, Nat.reduceBEq, Nat.reduceAdd, Nat.reduceLeDiff, Nat.reduceSub, Nat.reduceMul, Int.reduceToNat, List.size_toArray, tyF, MM, bu0, ipure, kpure, tpure, sspure, kset, tset, ksnoc, tsnoc, Kind.av, Twist.sl, Twist.tr, Invar.av, stsize, stget, sttl, stapp, stext, tsspure, Model.sl, Model.tr]
  refine ifP_mk ?_ ?_ <;> intro h1
  · simp -dsimp -implicitDefEqProofs (disch := first | omega | (simp only [lenr]; done) | (simp only [lenr]; omega)) only [↓amPre, amAll, ↓reduceIte, reduceCtorEq, Nat.reduceEqDiff, Nat.reduceBEq, Nat.reduceAdd, Nat.reduceLeDiff, Nat.reduceSub, Nat.reduceMul, Int.reduceToNat, List.size_toArray, tyF, MM, bu0, ipure, kpure, tpure, sspure, kset, tset, ksnoc, tsnoc, Kind.av, Twist.sl, Twist.tr, Invar.av, stsize, stget, sttl, stapp, stext, tsspure, Model.sl, Model.tr, h1]
    have : ¬ a = b := by intro e; subst e; simp at h1
    simp [this]
  simp -dsimp -implicitDefEqProofs (disch := first | omega | (simp only [lenr]; done) | (simp only [lenr]; omega)) only [↓amPre, amAll, ↓reduceIte, reduceCtorEq, Nat.reduceEqDiff, Nat.reduceBEq, Nat.reduceAdd, Nat.reduceLeDiff, Nat.reduceSub, Nat.reduceMul, Int.reduceToNat, List.size_toArray, tyF, MM, bu0, ipure, kpure, tpure, sspure, kset, tset, ksnoc, tsnoc, Kind.av, Twist.sl, Twist.tr, Invar.av, stsize, stget, sttl, stapp, stext, tsspure, Model.sl, Model.tr, h1]
  have hab : a.length = b.length := by simp at h1; omega
  refine awp_loop (fun k st => k ≤ a.length ∧ st.fr 5 = .i64 k ∧ st.fr 0 = tssl a ∧ st.fr 1 = tssl b ∧ a.take k = b.take k) (a.length) ?_ ?_
  · simp -dsimp -implicitDefEqProofs (disch := first | omega | (simp only [lenr]; done) | (simp only [lenr]; omega)) only [↓amPre, amAll, ↓reduceIte, reduceCtorEq, Nat.reduceEqDiff, Nat.reduceBEq, Nat.reduceAdd, Nat.reduceLeDiff, Nat.reduceSub, Nat.reduceMul, Int.reduceToNat, List.size_toArray, tyF, MM, bu0, ipure, kpure, tpure, sspure, kset, tset, ksnoc, tsnoc, Kind.av, Twist.sl, Twist.tr, Invar.av, stsize, stget, sttl, stapp, stext, tsspure, Model.sl, Model.tr]
    repeat' (first | omega | rfl | exact i64c (by omega) | exact vic (by omega) | apply And.intro)
  rintro k st _ ⟨hk, f5, f0, f1, ek⟩
  by_cases hlt : k < a.length
  · obtain ⟨e1, e2⟩ := ha.2 _ (mem_getD a k default hlt)
    simp -dsimp -implicitDefEqProofs (disch := first | omega | (simp only [lenr]; done) | (simp only [lenr]; omega)) only [↓amPre, amAll, ↓reduceIte, reduceCtorEq, Nat.reduceEqDiff, Nat.reduceBEq, Nat.reduceAdd, Nat.reduceLeDiff, Nat.reduceSub, Nat.reduceMul, Int.reduceToNat, List.size_toArray, tyF, MM, bu0, ipure, kpure, tpure, sspure, kset, tset, ksnoc, tsnoc, Kind.av, Twist.sl, Twist.tr, Invar.av, stsize, stget, sttl, stapp, stext, tsspure, Model.sl, Model.tr, f5, f0, f1]
    refine callP_of (eqTwistS (a.getD k default) (b.getD k default) e1 e2) ?_
    cases w1 : decide (a.getD k default = b.getD k default) with
    | false =>
      simp -dsimp -implicitDefEqProofs (disch := first | omega | (simp only [lenr]; done) | (simp only [lenr]; omega)) only [↓amPre, amAll, ↓reduceIte, reduceCtorEq, Nat.reduceEqDiff, Nat.reduceBEq, Nat.reduceAdd, Nat.reduceLeDiff, Nat.reduceSub, Nat.reduceMul, Int.reduceToNat, List.size_toArray, tyF, MM, bu0, ipure, kpure, tpure, sspure, kset, tset, ksnoc, tsnoc, Kind.av, Twist.sl, Twist.tr, Invar.av, stsize, stget, sttl, stapp, stext, tsspure, Model.sl, Model.tr, f5, f0, f1, w1]
      simp only [decide_eq_false_iff_not] at w1
      have hne : ¬ a = b := by
        intro e; subst e; exact w1 rfl
      simp [hne]
    | true =>
      simp -dsimp -implicitDefEqProofs (disch := first | omega | (simp only [lenr]; done) | (simp only [lenr]; omega)) only [↓amPre, amAll, ↓reduceIte, reduceCtorEq, Nat.reduceEqDiff, Nat.reduceBEq, Nat.reduceAdd, Nat.reduceLeDiff, Nat.reduceSub, Nat.reduceMul, Int.reduceToNat, List.size_toArray, tyF, MM, bu0, ipure, kpure, tpure, sspure, kset, tset, ksnoc, tsnoc, Kind.av, Twist.sl, Twist.tr, Invar.av, stsize, stget, sttl, stapp, stext, tsspure, Model.sl, Model.tr, f5, f0, f1, w1]
      simp only [decide_eq_true_eq] at w1
      repeat' (first | omega | rfl | exact i64c (by omega) | exact vic (by omega) | exact (take_eq_iff default k hlt (by omega)).2 ⟨ek, w1⟩ | apply And.intro)
  · have hke : k = a.length := by omega
    subst hke
    simp -dsimp -implicitDefEqProofs (disch := first | omega | (simp only [lenr]; done) | (simp only [lenr]; omega)) only [↓amPre, amAll, ↓reduceIte, reduceCtorEq, Nat.reduceEqDiff, Nat.reduceBEq, Nat.reduceAdd, Nat.reduceLeDiff, Nat.reduceSub, Nat.reduceMul, Int.reduceToNat, List.size_toArray, tyF, MM, bu0, ipure, kpure, tpure, sspure, kset, tset, ksnoc, tsnoc, Kind.av, Twist.sl, Twist.tr, Invar.av, stsize, stget, sttl, stapp, stext, tsspure, Model.sl, Model.tr, f5, f0, f1]
    simp [eq_of_takes hab ek]
def Model.size (m : Model) : Nat := m.ks.length + m.nm.length + sizeLL m.mv
abbrev wfM (m : Model) : Prop := m.ks.length ≤ 9223372036854775807 ∧ m.nm.length ≤ 9223372036854775807 ∧ wfTS m.mv
abbrev smallM (m : Model) : Prop := m.ks.length ≤ 1099511627776 ∧ m.nm.length ≤ 1099511627776 ∧ smallTS m.mv
theorem szM_small {m : Model} {k : Int} (hk : k ≤ 1048576) (h : 0 ≤ k - m.size) : smallM m ∧ cnts m.mv ≤ 1048576 := by
  unfold Model.size at h
  have h1 := sizeLL_len m.mv
  have h2 := cnts_LL m.mv
  refine ⟨⟨by omega, by omega, by omega, fun s hs => ?_⟩, by omega⟩
  have h3 := sizeLL_mem hs
  exact (szT_small (s := s) (k := 1048576) (by omega) (by omega)).1
theorem szPieceModel (m : Model) (k : Int) (h0 : 0 ≤ k) (h1 : k ≤ 1048576) (hw : wfM m) : SpecAt Try.prog 34 [m.sl, .i64 k] (.i64 (szR k m.size)) := by
  have h2 := hw.2.1
  refine spec_of_awp (M := MM) (np := 2) (fz := true) mixed Try.func34 rfl rfl (by decide) rfl (Nat.le_refl _) (by decide +kernel) (.inr ⟨rfl, rfl⟩) trivial ?_
  simp -dsimp -implicitDefEqProofs (disch := first | omega | (simp only [lenr]; done) | (simp only [lenr]; omega)) only [↓amPre, amAll, ↓reduceIte, reduceCtorEq, Nat.reduceEqDiff, Nat.reduceBEq, Nat.reduceAdd, Nat.reduceLeDiff, Nat.reduceSub, Nat.reduceMul, Int.reduceToNat, List.size_toArray, tyF, MM, bu0, ipure, kpure, tpure, sspure, kset, tset, ksnoc, tsnoc, Kind.av, Twist.sl, Twist.tr, Invar.av, stsize, stget, sttl, stapp, stext, tsspure, Model.sl, Model.tr]
  refine callP_of (szKindS m.ks _ (by unfold intOk; omega) h0 hw.1) ?_
  by_cases c1 : k - m.ks.length < 0
  · simp -dsimp -implicitDefEqProofs (disch := first | omega | (simp only [lenr]; done) | (simp only [lenr]; omega)) only [↓amPre, amAll, ↓reduceIte, reduceCtorEq, Nat.reduceEqDiff, Nat.reduceBEq, Nat.reduceAdd, Nat.reduceLeDiff, Nat.reduceSub, Nat.reduceMul, Int.reduceToNat, List.size_toArray, tyF, MM, bu0, ipure, kpure, tpure, sspure, kset, tset, ksnoc, tsnoc, Kind.av, Twist.sl, Twist.tr, Invar.av, stsize, stget, sttl, stapp, stext, tsspure, Model.sl, Model.tr, szR_neg c1]
    rw [szR_neg (by unfold Model.size; omega)]
  simp -dsimp -implicitDefEqProofs (disch := first | omega | (simp only [lenr]; done) | (simp only [lenr]; omega)) only [↓amPre, amAll, ↓reduceIte, reduceCtorEq, Nat.reduceEqDiff, Nat.reduceBEq, Nat.reduceAdd, Nat.reduceLeDiff, Nat.reduceSub, Nat.reduceMul, Int.reduceToNat, List.size_toArray, tyF, MM, bu0, ipure, kpure, tpure, sspure, kset, tset, ksnoc, tsnoc, Kind.av, Twist.sl, Twist.tr, Invar.av, stsize, stget, sttl, stapp, stext, tsspure, Model.sl, Model.tr, szR_pos (Int.not_lt.1 c1)]
  by_cases c2 : k - m.ks.length - m.nm.length < 0
  · simp -dsimp -implicitDefEqProofs (disch := first | omega | (simp only [lenr]; done) | (simp only [lenr]; omega)) only [↓amPre, amAll, ↓reduceIte, reduceCtorEq, Nat.reduceEqDiff, Nat.reduceBEq, Nat.reduceAdd, Nat.reduceLeDiff, Nat.reduceSub, Nat.reduceMul, Int.reduceToNat, List.size_toArray, tyF, MM, bu0, ipure, kpure, tpure, sspure, kset, tset, ksnoc, tsnoc, Kind.av, Twist.sl, Twist.tr, Invar.av, stsize, stget, sttl, stapp, stext, tsspure, Model.sl, Model.tr, lt_true c2]
    rw [szR_neg (by unfold Model.size; omega)]
  simp -dsimp -implicitDefEqProofs (disch := first | omega | (simp only [lenr]; done) | (simp only [lenr]; omega)) only [↓amPre, amAll, ↓reduceIte, reduceCtorEq, Nat.reduceEqDiff, Nat.reduceBEq, Nat.reduceAdd, Nat.reduceLeDiff, Nat.reduceSub, Nat.reduceMul, Int.reduceToNat, List.size_toArray, tyF, MM, bu0, ipure, kpure, tpure, sspure, kset, tset, ksnoc, tsnoc, Kind.av, Twist.sl, Twist.tr, Invar.av, stsize, stget, sttl, stapp, stext, tsspure, Model.sl, Model.tr, lt_false (Int.not_lt.1 c2)]
  refine callP_of (szTwistSS m.mv _ (by omega) (by omega) hw.2.2) ?_
  by_cases c3 : k - m.ks.length - m.nm.length - sizeLL m.mv < 0
  · simp -dsimp -implicitDefEqProofs (disch := first | omega | (simp only [lenr]; done) | (simp only [lenr]; omega)) only [↓amPre, amAll, ↓reduceIte, reduceCtorEq, Nat.reduceEqDiff, Nat.reduceBEq, Nat.reduceAdd, Nat.reduceLeDiff, Nat.reduceSub, Nat.reduceMul, Int.reduceToNat, List.size_toArray, tyF, MM, bu0, ipure, kpure, tpure, sspure, kset, tset, ksnoc, tsnoc, Kind.av, Twist.sl, Twist.tr, Invar.av, stsize, stget, sttl, stapp, stext, tsspure, Model.sl, Model.tr, szR_neg c3]
    rw [szR_neg (by unfold Model.size; omega)]
  simp -dsimp -implicitDefEqProofs (disch := first | omega | (simp only [lenr]; done) | (simp only [lenr]; omega)) only [↓amPre, amAll, ↓reduceIte, reduceCtorEq, Nat.reduceEqDiff, Nat.reduceBEq, Nat.reduceAdd, Nat.reduceLeDiff, Nat.reduceSub, Nat.reduceMul, Int.reduceToNat, List.size_toArray, tyF, MM, bu0, ipure, kpure, tpure, sspure, kset, tset, ksnoc, tsnoc, Kind.av, Twist.sl, Twist.tr, Invar.av, stsize, stget, sttl, stapp, stext, tsspure, Model.sl, Model.tr, szR_pos (Int.not_lt.1 c3)]
  rw [szR_pos (by unfold Model.size; omega)]
  exact vic (by unfold Model.size; omega)
theorem toPieceModel (m : Model) (h : smallM m) : SpecAt Try.prog 36 [m.sl] m.tr := by
  refine spec_of_awp (M := MM) (np := 1) (fz := false) mixed Try.func36 rfl rfl (by decide) rfl (Nat.le_refl _) (by decide +kernel) (.inl rfl) (by first | trivial | simp only [sigsOk_nil, sigsOk_some, sigsOk_none, sig_tr, sig_pt, sig_mt, sig_agg, List.map_cons, List.map_nil, sig1_tr, sig1_pt, sig1_v, and_self, true_and, List.length_map, List.length_set]) ?_
  simp -dsimp -implicitDefEqProofs (disch := first | omega | (simp only [lenr]; done) | (simp only [lenr]; omega)) only [↓amPre, amAll, ↓reduceIte, reduceCtorEq, Nat.reduceEqDiff, Nat.reduceBEq, Nat.reduceAdd, Nat.reduceLeDiff, Nat.reduceSub, Nat.reduceMul, Int.reduceToNat, List.size_toArray, tyF, MM, bu0, ipure, kpure, tpure, sspure, kset, tset, ksnoc, tsnoc, Kind.av, Twist.sl, Twist.tr, Invar.av, stsize, stget, sttl, stapp, stext, tsspure, Model.sl, Model.tr]
  refine callP_of (toKindS m.ks h.1) ?_
  simp -dsimp -implicitDefEqProofs (disch := first | omega | (simp only [lenr]; done) | (simp only [lenr]; omega)) only [↓amPre, amAll, ↓reduceIte, reduceCtorEq, Nat.reduceEqDiff, Nat.reduceBEq, Nat.reduceAdd, Nat.reduceLeDiff, Nat.reduceSub, Nat.reduceMul, Int.reduceToNat, List.size_toArray, tyF, MM, bu0, ipure, kpure, tpure, sspure, kset, tset, ksnoc, tsnoc, Kind.av, Twist.sl, Twist.tr, Invar.av, stsize, stget, sttl, stapp, stext, tsspure, Model.sl, Model.tr]
  refine callP_of (toTwistSS m.mv h.2.2) ?_
  simp -dsimp -implicitDefEqProofs (disch := first | omega | (simp only [lenr]; done) | (simp only [lenr]; omega)) only [↓amPre, amAll, ↓reduceIte, reduceCtorEq, Nat.reduceEqDiff, Nat.reduceBEq, Nat.reduceAdd, Nat.reduceLeDiff, Nat.reduceSub, Nat.reduceMul, Int.reduceToNat, List.size_toArray, tyF, MM, bu0, ipure, kpure, tpure, sspure, kset, tset, ksnoc, tsnoc, Kind.av, Twist.sl, Twist.tr, Invar.av, stsize, stget, sttl, stapp, stext, tsspure, Model.sl, Model.tr]
theorem eqPieceModel (a b : Model) (h : smallM a) : SpecAt Try.prog 38 [a.sl, b.sl] (.bl (decide (a = b))) := by
  refine spec_of_awp (M := MM) (np := 2) (fz := true) mixed Try.func38 rfl rfl (by decide) rfl (Nat.le_refl _) (by decide +kernel) (.inr ⟨rfl, rfl⟩) trivial ?_
  simp -dsimp -implicitDefEqProofs (disch := first | omega | (simp only [lenr]; done) | (simp only [lenr]; omega)) only [↓amPre, amAll, ↓reduceIte, reduceCtorEq, Nat.reduceEqDiff, Nat.reduceBEq, Nat.reduceAdd, Nat.reduceLeDiff, Nat.reduceSub, Nat.reduceMul, Int.reduceToNat, List.size_toArray, tyF, MM, bu0, ipure, kpure, tpure, sspure, kset, tset, ksnoc, tsnoc, Kind.av, Twist.sl, Twist.tr, Invar.av, stsize, stget, sttl, stapp, stext, tsspure, Model.sl, Model.tr]
  refine callP_of (eqKindS a.ks b.ks h.1) ?_
  obtain ⟨a1, a2, a3⟩ := a
  obtain ⟨b1, b2, b3⟩ := b
  by_cases c1 : a1 = b1
  case neg =>
    simp -dsimp -implicitDefEqProofs (disch := first | omega | (simp only [lenr]; done) | (simp only [lenr]; omega)) only [↓amPre, amAll, ↓reduceIte, reduceCtorEq, Nat.reduceEqDiff, Nat.reduceBEq, Nat.reduceAdd, Nat.reduceLeDiff, Nat.reduceSub, Nat.reduceMul, Int.reduceToNat, List.size_toArray, tyF, MM, bu0, ipure, kpure, tpure, sspure, kset, tset, ksnoc, tsnoc, Kind.av, Twist.sl, Twist.tr, Invar.av, stsize, stget, sttl, stapp, stext, tsspure, Model.sl, Model.tr, c1]
    all_goals simp [c1]
  subst c1
  simp -dsimp -implicitDefEqProofs (disch := first | omega | (simp only [lenr]; done) | (simp only [lenr]; omega)) only [↓amPre, amAll, ↓reduceIte, reduceCtorEq, Nat.reduceEqDiff, Nat.reduceBEq, Nat.reduceAdd, Nat.reduceLeDiff, Nat.reduceSub, Nat.reduceMul, Int.reduceToNat, List.size_toArray, tyF, MM, bu0, ipure, kpure, tpure, sspure, kset, tset, ksnoc, tsnoc, Kind.av, Twist.sl, Twist.tr, Invar.av, stsize, stget, sttl, stapp, stext, tsspure, Model.sl, Model.tr]
  by_cases c2 : a2 = b2
  case neg =>
    have c2' : (a2 == b2) = false := by simpa using c2
    simp -dsimp -implicitDefEqProofs (disch := first | omega | (simp only [lenr]; done) | (simp only [lenr]; omega)) only [↓amPre, amAll, ↓reduceIte, reduceCtorEq, Nat.reduceEqDiff, Nat.reduceBEq, Nat.reduceAdd, Nat.reduceLeDiff, Nat.reduceSub, Nat.reduceMul, Int.reduceToNat, List.size_toArray, tyF, MM, bu0, ipure, kpure, tpure, sspure, kset, tset, ksnoc, tsnoc, Kind.av, Twist.sl, Twist.tr, Invar.av, stsize, stget, sttl, stapp, stext, tsspure, Model.sl, Model.tr, c2']
    all_goals simp [c2]
  subst c2
  have c2' : (a2 == a2) = true := by simp
  simp -dsimp -implicitDefEqProofs (disch := first | omega | (simp only [lenr]; done) | (simp only [lenr]; omega)) only [↓amPre, amAll, ↓reduceIte, reduceCtorEq, Nat.reduceEqDiff, Nat.reduceBEq, Nat.reduceAdd, Nat.reduceLeDiff, Nat.reduceSub, Nat.reduceMul, Int.reduceToNat, List.size_toArray, tyF, MM, bu0, ipure, kpure, tpure, sspure, kset, tset, ksnoc, tsnoc, Kind.av, Twist.sl, Twist.tr, Invar.av, stsize, stget, sttl, stapp, stext, tsspure, Model.sl, Model.tr, c2']
  refine callP_of (eqTwistSS a3 b3 h.2.2) ?_
  by_cases c3 : a3 = b3
  · simp -dsimp -implicitDefEqProofs (disch := first | omega | (simp only [lenr]; done) | (simp only [lenr]; omega)) only [↓amPre, amAll, ↓reduceIte, reduceCtorEq, Nat.reduceEqDiff, Nat.reduceBEq, Nat.reduceAdd, Nat.reduceLeDiff, Nat.reduceSub, Nat.reduceMul, Int.reduceToNat, List.size_toArray, tyF, MM, bu0, ipure, kpure, tpure, sspure, kset, tset, ksnoc, tsnoc, Kind.av, Twist.sl, Twist.tr, Invar.av, stsize, stget, sttl, stapp, stext, tsspure, Model.sl, Model.tr, c3]
    all_goals simp [c3]
  · simp -dsimp -implicitDefEqProofs (disch := first | omega | (simp only [lenr]; done) | (simp only [lenr]; omega)) only [↓amPre, amAll, ↓reduceIte, reduceCtorEq, Nat.reduceEqDiff, Nat.reduceBEq, Nat.reduceAdd, Nat.reduceLeDiff, Nat.reduceSub, Nat.reduceMul, Int.reduceToNat, List.size_toArray, tyF, MM, bu0, ipure, kpure, tpure, sspure, kset, tset, ksnoc, tsnoc, Kind.av, Twist.sl, Twist.tr, Invar.av, stsize, stget, sttl, stapp, stext, tsspure, Model.sl, Model.tr, c3]
    all_goals simp [c3]
theorem markTwistSS (l : List (List Twist)) (k : Int) (h0 : 0 ≤ k) (h1 : k + cnts l ≤ 1099511627776) (hl : smallTS l) : SpecX Try.prog 115 [tsst l, .i64 k] [some (tsst (mks k l))] (.i64 (k + cnts l)) := by
  have hl0 := hl.1
  refine spec_of_awp (M := MM) (np := 2) (fz := false) mixed Try.func115 rfl rfl (by decide) rfl (Nat.le_refl _) (by decide +kernel) (.inl rfl) (by simp only [sigsOk_some, sigsOk_nil, sig_tr, List.length_map, mks_len, and_self]) ?_
  simp -dsimp -implicitDefEqProofs (disch := first | omega | (simp only [lenr]; done) | (simp only [lenr]; omega)) only [↓amPre, amAll, ↓reduceIte, reduceCtorEq, Nat.reduceEqDiff, Nat.reduceBEq, Nat.reduceAdd, Nat.reduceLeDiff, Nat.reduceSub, Nat.reduceMul, Int.reduceToNat, List.size_toArray, tyF, MM, bu0, ipure, kpure, tpure, sspure, kset, tset, ksnoc, tsnoc, Kind.av, Twist.sl, Twist.tr, Invar.av, stsize, stget, sttl, stapp, stext, tsspure, Model.sl, Model.tr]
  have hr := mks_len k l
  refine awp_loop (fun j st => j ≤ l.length ∧ st.fr 5 = .i64 j ∧ st.fr 1 = .i64 (k + cnts (l.take j)) ∧ st.fr 0 = .ref 0 [] 1 0 l.length ∧ st.mem 0 = some (tsst (mixL (mks k l) l j))) (l.length) ?_ ?_
  · simp -dsimp -implicitDefEqProofs (disch := first | omega | (simp only [lenr]; done) | (simp only [lenr]; omega)) only [↓amPre, amAll, ↓reduceIte, reduceCtorEq, Nat.reduceEqDiff, Nat.reduceBEq, Nat.reduceAdd, Nat.reduceLeDiff, Nat.reduceSub, Nat.reduceMul, Int.reduceToNat, List.size_toArray, tyF, MM, bu0, ipure, kpure, tpure, sspure, kset, tset, ksnoc, tsnoc, Kind.av, Twist.sl, Twist.tr, Invar.av, stsize, stget, sttl, stapp, stext, tsspure, Model.sl, Model.tr, mixL_zero]
    simp [cnts]
  rintro j st _ ⟨hj, f5, f1, f0, m0⟩
  have hml := mixL_len (mks k l) l j hr
  by_cases hlt : j < l.length
  · have hs := mixL_set (mks k l) l j default hr hlt
    have hg := mixL_get (mks k l) l j default hr hlt
    have ec : Mk.mrk (k + cnts (l.take j)) (l.getD j default) = mks (k + cnts (l.take j)) (l.getD j default) := rfl
    have ec2 : Mk.cnt (l.getD j default) = cnts (l.getD j default) := rfl
    rw [mks_get _ _ _ hlt, ec] at hs
    have ct := cnts_take l j hlt
    have cl := cnts_le1 l j hlt
    rw [ec2] at ct cl
    simp -dsimp -implicitDefEqProofs (disch := first | omega | (simp only [lenr]; done) | (simp only [lenr]; omega)) only [↓amPre, amAll, ↓reduceIte, reduceCtorEq, Nat.reduceEqDiff, Nat.reduceBEq, Nat.reduceAdd, Nat.reduceLeDiff, Nat.reduceSub, Nat.reduceMul, Int.reduceToNat, List.size_toArray, tyF, MM, bu0, ipure, kpure, tpure, sspure, kset, tset, ksnoc, tsnoc, Kind.av, Twist.sl, Twist.tr, Invar.av, stsize, stget, sttl, stapp, stext, tsspure, Model.sl, Model.tr, f5, f1, f0, m0, hml, hg]
    refine callX_of (markTwistS (l.getD j default) _ (by omega) (by omega) (hl.2 _ (mem_getD l j default hlt)).1) ?_
    simp -dsimp -implicitDefEqProofs (disch := first | omega | (simp only [lenr]; done) | (simp only [lenr]; omega)) only [↓amPre, amAll, ↓reduceIte, reduceCtorEq, Nat.reduceEqDiff, Nat.reduceBEq, Nat.reduceAdd, Nat.reduceLeDiff, Nat.reduceSub, Nat.reduceMul, Int.reduceToNat, List.size_toArray, tyF, MM, bu0, ipure, kpure, tpure, sspure, kset, tset, ksnoc, tsnoc, Kind.av, Twist.sl, Twist.tr, Invar.av, stsize, stget, sttl, stapp, stext, tsspure, Model.sl, Model.tr, f5, f1, f0, m0, hml, hg, hs, mks_len]
    repeat' (first | omega | rfl | exact i64c (by omega) | exact vic (by omega) | apply And.intro)
  · have hj' : j = l.length := by omega
    subst hj'
    have := mixL_all (mks k l) l l.length (by omega) (by omega)
    simp -dsimp -implicitDefEqProofs (disch := first | omega | (simp only [lenr]; done) | (simp only [lenr]; omega)) only [↓amPre, amAll, ↓reduceIte, reduceCtorEq, Nat.reduceEqDiff, Nat.reduceBEq, Nat.reduceAdd, Nat.reduceLeDiff, Nat.reduceSub, Nat.reduceMul, Int.reduceToNat, List.size_toArray, tyF, MM, bu0, ipure, kpure, tpure, sspure, kset, tset, ksnoc, tsnoc, Kind.av, Twist.sl, Twist.tr, Invar.av, stsize, stget, sttl, stapp, stext, tsspure, Model.sl, Model.tr, f5, f1, f0, m0, hml, this, List.take_length]
theorem markPieceModel (m : Model) (k : Int) (h0 : 0 ≤ k) (h1 : k + 2 * m.ks.length + cnts m.mv ≤ 1099511627776) (h : smallM m) : SpecX Try.prog 39 [m.tr, .i64 k] [] (.i64 (k + 2 * m.ks.length + cnts m.mv)) := by
  refine spec_of_awp (M := MM) (np := 2) (fz := false) mixed Try.func39 rfl rfl (by decide) rfl (Nat.le_refl _) (by decide +kernel) (.inl rfl) (by first | trivial | simp only [sigsOk_nil, sigsOk_some, sigsOk_none, sig_tr, sig_pt, sig_mt, sig_agg, List.map_cons, List.map_nil, sig1_tr, sig1_pt, sig1_v, and_self, true_and, List.length_map, List.length_set]) ?_
  simp -dsimp -implicitDefEqProofs (disch := first | omega | (simp only [lenr]; done) | (simp only [lenr]; omega)) only [↓amPre, amAll, ↓reduceIte, reduceCtorEq, Nat.reduceEqDiff, Nat.reduceBEq, Nat.reduceAdd, Nat.reduceLeDiff, Nat.reduceSub, Nat.reduceMul, Int.reduceToNat, List.size_toArray, tyF, MM, bu0, ipure, kpure, tpure, sspure, kset, tset, ksnoc, tsnoc, Kind.av, Twist.sl, Twist.tr, Invar.av, stsize, stget, sttl, stapp, stext, tsspure, Model.sl, Model.tr]
  refine callX_of (markKindS m.ks _ h0 (by omega) h.1) ?_
  simp -dsimp -implicitDefEqProofs (disch := first | omega | (simp only [lenr]; done) | (simp only [lenr]; omega)) only [↓amPre, amAll, ↓reduceIte, reduceCtorEq, Nat.reduceEqDiff, Nat.reduceBEq, Nat.reduceAdd, Nat.reduceLeDiff, Nat.reduceSub, Nat.reduceMul, Int.reduceToNat, List.size_toArray, tyF, MM, bu0, ipure, kpure, tpure, sspure, kset, tset, ksnoc, tsnoc, Kind.av, Twist.sl, Twist.tr, Invar.av, stsize, stget, sttl, stapp, stext, tsspure, Model.sl, Model.tr, mks_len]
  refine callX_of (markTwistSS m.mv _ (by omega) (by omega) h.2.2) ?_
  simp -dsimp -implicitDefEqProofs (disch := first | omega | (simp only [lenr]; done) | (simp only [lenr]; omega)) only [↓amPre, amAll, ↓reduceIte, reduceCtorEq, Nat.reduceEqDiff, Nat.reduceBEq, Nat.reduceAdd, Nat.reduceLeDiff, Nat.reduceSub, Nat.reduceMul, Int.reduceToNat, List.size_toArray, tyF, MM, bu0, ipure, kpure, tpure, sspure, kset, tset, ksnoc, tsnoc, Kind.av, Twist.sl, Twist.tr, Invar.av, stsize, stget, sttl, stapp, stext, tsspure, Model.sl, Model.tr, mks_len]
end Go.AM
set_option maxRecDepth 8000
namespace Go.AM
open Go.Proofs
def fidxG {α : Type} (pr : α → Bool) (l : List α) : Int := match l.findIdx? pr with | some i => i | none => -1
theorem fidxG_nonneg {α : Type} (pr : α → Bool) (l : List α) : 0 ≤ fidxG pr l ↔ l.any pr = true := by
  unfold fidxG
  split
  · rename_i i e
    rw [List.findIdx?_eq_some_iff_getElem] at e
    obtain ⟨hi, h1, _⟩ := e
    simp only [List.any_eq_true]
    exact ⟨fun _ => ⟨_, List.getElem_mem hi, h1⟩, fun _ => by omega⟩
  · rename_i e
    rw [List.findIdx?_eq_none_iff] at e
    simp only [List.any_eq_true]
    exact ⟨fun q => by omega, fun ⟨x, hx, hp⟩ => by rw [e x hx] at hp; cases hp⟩
theorem fidxG_at {α : Type} (pr : α → Bool) (l : List α) (d : α) (k : Nat) (hk : k < l.length) (h1 : ∀ x ∈ l.take k, pr x = false) (h2 : pr (l.getD k d) = true) : fidxG pr l = k := by
  have : l.findIdx? pr = some k := by
    rw [List.findIdx?_eq_some_iff_getElem]
    refine ⟨hk, by rw [← getD_eq l k d hk]; exact h2, fun j hj => ?_⟩
    have := h1 (l[j]) (by rw [List.mem_take_iff_getElem]; exact ⟨j, by omega, rfl⟩)
    simpa using this
  rw [fidxG, this]
theorem fidxG_none {α : Type} (pr : α → Bool) (l : List α) (h : ∀ x ∈ l, pr x = false) : fidxG pr l = -1 := by
  have : l.findIdx? pr = none := by rw [List.findIdx?_eq_none_iff]; exact h
  rw [fidxG, this]
theorem indexFuncT (l : List (List Twist)) (g : FuncId) (caps : List AV) (pr : List Twist → Bool) (hM : MM g = []) (hb : AV.bearsL caps = false) (hv : ∀ mem, AV.views mem caps = caps) (h : ∀ x ∈ l, SpecAt Try.prog g ([tsl x] ++ caps) (.bl (pr x))) (hl : l.length ≤ 1099511627776) :
    SpecAt Try.prog 225 [tssl l, .fn g caps] (.i64 (fidxG pr l)) := by
  unfold MM at hM
  refine spec_of_awp (M := MM) (np := 2) (fz := true) mixed Try.func225 rfl rfl (by decide) rfl (Nat.le_refl _) (by decide +kernel) (.inr ⟨rfl, rfl⟩) trivial ?_
  simp -dsimp -implicitDefEqProofs (disch := first | omega | (simp only [lenr]; done) | (simp only [lenr]; omega)) only [↓amPre, amAll, ↓reduceIte, reduceCtorEq, Nat.reduceEqDiff, Nat.reduceBEq, Nat.reduceAdd, Nat.reduceLeDiff, Nat.reduceSub, Nat.reduceMul, Int.reduceToNat, List.size_toArray, tyF, MM, bu0, ipure, kpure, tpure, sspure, kset, tset, ksnoc, tsnoc, Kind.av, Twist.sl, Twist.tr, Invar.av, stsize, stget, sttl, stapp, stext, tsspure, Model.sl, Model.tr]
  refine awp_loop (fun k st => k ≤ l.length ∧ st.fr 8 = .i64 k ∧ st.fr 7 = .i64 l.length ∧ st.fr 0 = tssl l ∧ st.fr 1 = .fn g caps ∧ ∀ x ∈ l.take k, pr x = false) (l.length) ?_ ?_
  · simp -dsimp -implicitDefEqProofs (disch := first | omega | (simp only [lenr]; done) | (simp only [lenr]; omega)) only [↓amPre, amAll, ↓reduceIte, reduceCtorEq, Nat.reduceEqDiff, Nat.reduceBEq, Nat.reduceAdd, Nat.reduceLeDiff, Nat.reduceSub, Nat.reduceMul, Int.reduceToNat, List.size_toArray, tyF, MM, bu0, ipure, kpure, tpure, sspure, kset, tset, ksnoc, tsnoc, Kind.av, Twist.sl, Twist.tr, Invar.av, stsize, stget, sttl, stapp, stext, tsspure, Model.sl, Model.tr]
    simp
  rintro k st _ ⟨hk, f8, f7, f0, f1, ek⟩
  by_cases hlt : k < l.length
  · have hmem := mem_getD l k default hlt
    simp -dsimp -implicitDefEqProofs (disch := first | omega | (simp only [lenr]; done) | (simp only [lenr]; omega)) only [↓amPre, amAll, ↓reduceIte, reduceCtorEq, Nat.reduceEqDiff, Nat.reduceBEq, Nat.reduceAdd, Nat.reduceLeDiff, Nat.reduceSub, Nat.reduceMul, Int.reduceToNat, List.size_toArray, tyF, MM, bu0, ipure, kpure, tpure, sspure, kset, tset, ksnoc, tsnoc, Kind.av, Twist.sl, Twist.tr, Invar.av, stsize, stget, sttl, stapp, stext, tsspure, Model.sl, Model.tr, f8, f7, f0, f1, hM, hb, hv]
    refine callP_of (h _ hmem) ?_
    cases w : pr (l.getD k default) with
    | true =>
      simp -dsimp -implicitDefEqProofs (disch := first | omega | (simp only [lenr]; done) | (simp only [lenr]; omega)) only [↓amPre, amAll, ↓reduceIte, reduceCtorEq, Nat.reduceEqDiff, Nat.reduceBEq, Nat.reduceAdd, Nat.reduceLeDiff, Nat.reduceSub, Nat.reduceMul, Int.reduceToNat, List.size_toArray, tyF, MM, bu0, ipure, kpure, tpure, sspure, kset, tset, ksnoc, tsnoc, Kind.av, Twist.sl, Twist.tr, Invar.av, stsize, stget, sttl, stapp, stext, tsspure, Model.sl, Model.tr, f8, f7, f0, f1, w]
      rw [fidxG_at pr l default k hlt ek w]
    | false =>
      simp -dsimp -implicitDefEqProofs (disch := first | omega | (simp only [lenr]; done) | (simp only [lenr]; omega)) only [↓amPre, amAll, ↓reduceIte, reduceCtorEq, Nat.reduceEqDiff, Nat.reduceBEq, Nat.reduceAdd, Nat.reduceLeDiff, Nat.reduceSub, Nat.reduceMul, Int.reduceToNat, List.size_toArray, tyF, MM, bu0, ipure, kpure, tpure, sspure, kset, tset, ksnoc, tsnoc, Kind.av, Twist.sl, Twist.tr, Invar.av, stsize, stget, sttl, stapp, stext, tsspure, Model.sl, Model.tr, f8, f7, f0, f1, w]
      repeat' (first | omega | rfl | exact i64c (by omega) | exact vic (by omega) | exact (mem_take_succ (d := default) hlt).2 ⟨ek, w⟩ | apply And.intro)
  · have hke : k = l.length := by omega
    subst hke
    rw [List.take_length] at ek
    simp -dsimp -implicitDefEqProofs (disch := first | omega | (simp only [lenr]; done) | (simp only [lenr]; omega)) only [↓amPre, amAll, ↓reduceIte, reduceCtorEq, Nat.reduceEqDiff, Nat.reduceBEq, Nat.reduceAdd, Nat.reduceLeDiff, Nat.reduceSub, Nat.reduceMul, Int.reduceToNat, List.size_toArray, tyF, MM, bu0, ipure, kpure, tpure, sspure, kset, tset, ksnoc, tsnoc, Kind.av, Twist.sl, Twist.tr, Invar.av, stsize, stget, sttl, stapp, stext, tsspure, Model.sl, Model.tr, f8, f7, f0, f1]
    rw [fidxG_none pr l ek]
theorem containsFuncT (l : List (List Twist)) (g : FuncId) (caps : List AV) (pr : List Twist → Bool) (hM : MM g = []) (hb : AV.bearsL caps = false) (hv : ∀ mem, AV.views mem caps = caps) (h : ∀ x ∈ l, SpecAt Try.prog g ([tsl x] ++ caps) (.bl (pr x))) (hl : l.length ≤ 1099511627776) :
    SpecAt Try.prog 173 [tssl l, .fn g caps] (.bl (l.any pr)) := by
  refine spec_of_awp (M := MM) (np := 2) (fz := true) mixed Try.func173 rfl rfl (by decide) rfl (Nat.le_refl _) (by decide +kernel) (.inr ⟨rfl, rfl⟩) trivial ?_
  simp -dsimp -implicitDefEqProofs (disch := first | omega | (simp only [lenr]; done) | (simp only [lenr]; omega)) only [↓amPre, amAll, ↓reduceIte, reduceCtorEq, Nat.reduceEqDiff, Nat.reduceBEq, Nat.reduceAdd, Nat.reduceLeDiff, Nat.reduceSub, Nat.reduceMul, Int.reduceToNat, List.size_toArray, tyF, MM, bu0, ipure, kpure, tpure, sspure, kset, tset, ksnoc, tsnoc, Kind.av, Twist.sl, Twist.tr, Invar.av, stsize, stget, sttl, stapp, stext, tsspure, Model.sl, Model.tr, hb, hv]
  refine callP_of (indexFuncT l g caps pr hM hb hv h hl) ?_
  simp -dsimp -implicitDefEqProofs (disch := first | omega | (simp only [lenr]; done) | (simp only [lenr]; omega)) only [↓amPre, amAll, ↓reduceIte, reduceCtorEq, Nat.reduceEqDiff, Nat.reduceBEq, Nat.reduceAdd, Nat.reduceLeDiff, Nat.reduceSub, Nat.reduceMul, Int.reduceToNat, List.size_toArray, tyF, MM, bu0, ipure, kpure, tpure, sspure, kset, tset, ksnoc, tsnoc, Kind.av, Twist.sl, Twist.tr, Invar.av, stsize, stget, sttl, stapp, stext, tsspure, Model.sl, Model.tr]
  refine bl_eq ?_
  simp only [decide_eq_true_eq, fidxG_nonneg]
theorem iIsValidPM1 (s : List Twist) (m : Model) (h1 : m.ks.length ≤ 1099511627776) (hs : smallT s) : SpecAt Try.prog 174 [tsl s, .ep [ksl m.ks, .st m.nm, tssl m.mv]] (.bl (!decide (psOk m.ks s))) := by
  refine spec_of_awp (M := MM) (np := 2) (fz := true) mixed Try.func174 rfl rfl (by decide) rfl (Nat.le_refl _) (by decide +kernel) (.inr ⟨rfl, rfl⟩) trivial ?_
  simp -dsimp -implicitDefEqProofs (disch := first | omega | (simp only [lenr]; done) | (simp only [lenr]; omega)) only [↓amPre, amAll, ↓reduceIte, reduceCtorEq, Nat.reduceEqDiff, Nat.reduceBEq, Nat.reduceAdd, Nat.reduceLeDiff, Nat.reduceSub, Nat.reduceMul, Int.reduceToNat, List.size_toArray, tyF, MM, bu0, ipure, kpure, tpure, sspure, kset, tset, ksnoc, tsnoc, Kind.av, Twist.sl, Twist.tr, Invar.av, stsize, stget, sttl, stapp, stext, tsspure, Model.sl, Model.tr]
  refine callP_of (iIsPieceState m.ks s h1 hs.1 hs.2) ?_
  simp -dsimp -implicitDefEqProofs (disch := first | omega | (simp only [lenr]; done) | (simp only [lenr]; omega)) only [↓amPre, amAll, ↓reduceIte, reduceCtorEq, Nat.reduceEqDiff, Nat.reduceBEq, Nat.reduceAdd, Nat.reduceLeDiff, Nat.reduceSub, Nat.reduceMul, Int.reduceToNat, List.size_toArray, tyF, MM, bu0, ipure, kpure, tpure, sspure, kset, tset, ksnoc, tsnoc, Kind.av, Twist.sl, Twist.tr, Invar.av, stsize, stget, sttl, stapp, stext, tsspure, Model.sl, Model.tr]
theorem iIsValidPieceModel (m : Model) (h : smallM m) : SpecAt Try.prog 80 [m.sl] (.bl (decide (modelOk m))) := by
  have h2 := h.2.1
  have h3 := h.2.2.1
  refine spec_of_awp (M := MM) (np := 1) (fz := true) mixed Try.func80 rfl rfl (by decide) rfl (Nat.le_refl _) (by decide +kernel) (.inr ⟨rfl, rfl⟩) trivial ?_
  have fin : ∀ b : Bool, (b = true ↔ modelOk m) → Value.bool b = Value.bool (decide (modelOk m)) := fun b h => bl_eq (by rw [h, decide_eq_true_iff])
  simp -dsimp -implicitDefEqProofs (disch := first | omega | (simp only [lenr]; done) | (simp only [lenr]; omega)) only [↓amPre, amAll, ↓reduceIte, reduceCtorEq, Nat.reduceEqDiff, Nat.reduceBEq, Nat.reduceAdd, Nat.reduceLeDiff, Nat.reduceSub, Nat.reduceMul, Int.reduceToNat, List.size_toArray, tyF, MM, bu0, ipure, kpure, tpure, sspure, kset, tset, ksnoc, tsnoc, Kind.av, Twist.sl, Twist.tr, Invar.av, stsize, stget, sttl, stapp, stext, tsspure, Model.sl, Model.tr]
  refine callP_of (iAreValidKinds m.ks h.1) ?_
  by_cases c1 : kindsOk m.ks
  case neg =>
    simp -dsimp -implicitDefEqProofs (disch := first | omega | (simp only [lenr]; done) | (simp only [lenr]; omega)) only [↓amPre, amAll, ↓reduceIte, reduceCtorEq, Nat.reduceEqDiff, Nat.reduceBEq, Nat.reduceAdd, Nat.reduceLeDiff, Nat.reduceSub, Nat.reduceMul, Int.reduceToNat, List.size_toArray, tyF, MM, bu0, ipure, kpure, tpure, sspure, kset, tset, ksnoc, tsnoc, Kind.av, Twist.sl, Twist.tr, Invar.av, stsize, stget, sttl, stapp, stext, tsspure, Model.sl, Model.tr, c1]
    refine fin _ ?_
    simp only [modelOk, c1, false_and, reduceCtorEq]
  simp -dsimp -implicitDefEqProofs (disch := first | omega | (simp only [lenr]; done) | (simp only [lenr]; omega)) only [↓amPre, amAll, ↓reduceIte, reduceCtorEq, Nat.reduceEqDiff, Nat.reduceBEq, Nat.reduceAdd, Nat.reduceLeDiff, Nat.reduceSub, Nat.reduceMul, Int.reduceToNat, List.size_toArray, tyF, MM, bu0, ipure, kpure, tpure, sspure, kset, tset, ksnoc, tsnoc, Kind.av, Twist.sl, Twist.tr, Invar.av, stsize, stget, sttl, stapp, stext, tsspure, Model.sl, Model.tr, c1]
  refine callP_of (iisNames m.nm h.2.1) ?_
  by_cases c2 : namesOk m.nm
  case neg =>
    simp -dsimp -implicitDefEqProofs (disch := first | omega | (simp only [lenr]; done) | (simp only [lenr]; omega)) only [↓amPre, amAll, ↓reduceIte, reduceCtorEq, Nat.reduceEqDiff, Nat.reduceBEq, Nat.reduceAdd, Nat.reduceLeDiff, Nat.reduceSub, Nat.reduceMul, Int.reduceToNat, List.size_toArray, tyF, MM, bu0, ipure, kpure, tpure, sspure, kset, tset, ksnoc, tsnoc, Kind.av, Twist.sl, Twist.tr, Invar.av, stsize, stget, sttl, stapp, stext, tsspure, Model.sl, Model.tr, c1, c2]
    refine fin _ ?_
    simp only [modelOk, c2, false_and, and_false, reduceCtorEq]
  by_cases c3 : (m.nm.length : Int) = m.mv.length
  case neg =>
    simp -dsimp -implicitDefEqProofs (disch := first | omega | (simp only [lenr]; done) | (simp only [lenr]; omega)) only [↓amPre, amAll, ↓reduceIte, reduceCtorEq, Nat.reduceEqDiff, Nat.reduceBEq, Nat.reduceAdd, Nat.reduceLeDiff, Nat.reduceSub, Nat.reduceMul, Int.reduceToNat, List.size_toArray, tyF, MM, bu0, ipure, kpure, tpure, sspure, kset, tset, ksnoc, tsnoc, Kind.av, Twist.sl, Twist.tr, Invar.av, stsize, stget, sttl, stapp, stext, tsspure, Model.sl, Model.tr, c1, c2, eq_false c3]
    refine fin _ ?_
    simp only [reduceCtorEq, false_iff]
    intro q; have := q.2.2.1; omega
  simp -dsimp -implicitDefEqProofs (disch := first | omega | (simp only [lenr]; done) | (simp only [lenr]; omega)) only [↓amPre, amAll, ↓reduceIte, reduceCtorEq, Nat.reduceEqDiff, Nat.reduceBEq, Nat.reduceAdd, Nat.reduceLeDiff, Nat.reduceSub, Nat.reduceMul, Int.reduceToNat, List.size_toArray, tyF, MM, bu0, ipure, kpure, tpure, sspure, kset, tset, ksnoc, tsnoc, Kind.av, Twist.sl, Twist.tr, Invar.av, stsize, stget, sttl, stapp, stext, tsspure, Model.sl, Model.tr, c1, c2, eq_true c3]
  refine callP_of (containsFuncT m.mv _ _ (fun s => !decide (psOk m.ks s)) rfl rfl (fun _ => rfl) (fun s hs => iIsValidPM1 s m h.1 (h.2.2.2 s hs)) h3) ?_
  simp -dsimp -implicitDefEqProofs (disch := first | omega | (simp only [lenr]; done) | (simp only [lenr]; omega)) only [↓amPre, amAll, ↓reduceIte, reduceCtorEq, Nat.reduceEqDiff, Nat.reduceBEq, Nat.reduceAdd, Nat.reduceLeDiff, Nat.reduceSub, Nat.reduceMul, Int.reduceToNat, List.size_toArray, tyF, MM, bu0, ipure, kpure, tpure, sspure, kset, tset, ksnoc, tsnoc, Kind.av, Twist.sl, Twist.tr, Invar.av, stsize, stget, sttl, stapp, stext, tsspure, Model.sl, Model.tr, c1, c2, eq_true c3]
  refine fin _ ?_
  have c3' : m.nm.length = m.mv.length := by omega
  simp only [Bool.not_eq_true', List.any_eq_false, Bool.not_eq_true, Bool.not_eq_false', decide_eq_false_iff_not, Decidable.not_not, modelOk, c1, c2, c3', true_and]
theorem sIsValidPieceModel (m : Model) (h : smallM m) : SpecAt Try.prog 16 [m.sl] (.bl (decide (modelOk m))) := by
  have h2 := h.2.1
  have h3 := h.2.2.1
  refine spec_of_awp (M := MM) (np := 1) (fz := true) mixed Try.func16 rfl rfl (by decide) rfl (Nat.le_refl _) (by decide +kernel) (.inr ⟨rfl, rfl⟩) trivial ?_
  have fin : ∀ b : Bool, (b = true ↔ modelOk m) → Value.bool b = Value.bool (decide (modelOk m)) := fun b h => bl_eq (by rw [h, decide_eq_true_iff])
  simp -dsimp -implicitDefEqProofs (disch := first | omega | (simp only [lenr]; done) | (simp only [lenr]; omega)) only [↓amPre, amAll, ↓reduceIte, reduceCtorEq, Nat.reduceEqDiff, Nat.reduceBEq, Nat.reduceAdd, Nat.reduceLeDiff, Nat.reduceSub, Nat.reduceMul, Int.reduceToNat, List.size_toArray, tyF, MM, bu0, ipure, kpure, tpure, sspure, kset, tset, ksnoc, tsnoc, Kind.av, Twist.sl, Twist.tr, Invar.av, stsize, stget, sttl, stapp, stext, tsspure, Model.sl, Model.tr]
  refine callP_of (sAreValidKinds m.ks h.1) ?_
  by_cases c1 : kindsOk m.ks
  case neg =>
    simp -dsimp -implicitDefEqProofs (disch := first | omega | (simp only [lenr]; done) | (simp only [lenr]; omega)) only [↓amPre, amAll, ↓reduceIte, reduceCtorEq, Nat.reduceEqDiff, Nat.reduceBEq, Nat.reduceAdd, Nat.reduceLeDiff, Nat.reduceSub, Nat.reduceMul, Int.reduceToNat, List.size_toArray, tyF, MM, bu0, ipure, kpure, tpure, sspure, kset, tset, ksnoc, tsnoc, Kind.av, Twist.sl, Twist.tr, Invar.av, stsize, stget, sttl, stapp, stext, tsspure, Model.sl, Model.tr, c1]
    refine fin _ ?_
    simp only [modelOk, c1, false_and, reduceCtorEq]
  simp -dsimp -implicitDefEqProofs (disch := first | omega | (simp only [lenr]; done) | (simp only [lenr]; omega)) only [↓amPre, amAll, ↓reduceIte, reduceCtorEq, Nat.reduceEqDiff, Nat.reduceBEq, Nat.reduceAdd, Nat.reduceLeDiff, Nat.reduceSub, Nat.reduceMul, Int.reduceToNat, List.size_toArray, tyF, MM, bu0, ipure, kpure, tpure, sspure, kset, tset, ksnoc, tsnoc, Kind.av, Twist.sl, Twist.tr, Invar.av, stsize, stget, sttl, stapp, stext, tsspure, Model.sl, Model.tr, c1]
  refine callP_of (inRange _ _ _) ?_
  by_cases c2 : 1 ≤ (m.mv.length : Int) ∧ (m.mv.length : Int) ≤ 8
  case neg =>
    simp -dsimp -implicitDefEqProofs (disch := first | omega | (simp only [lenr]; done) | (simp only [lenr]; omega)) only [↓amPre, amAll, ↓reduceIte, reduceCtorEq, Nat.reduceEqDiff, Nat.reduceBEq, Nat.reduceAdd, Nat.reduceLeDiff, Nat.reduceSub, Nat.reduceMul, Int.reduceToNat, List.size_toArray, tyF, MM, bu0, ipure, kpure, tpure, sspure, kset, tset, ksnoc, tsnoc, Kind.av, Twist.sl, Twist.tr, Invar.av, stsize, stget, sttl, stapp, stext, tsspure, Model.sl, Model.tr, within_not.2 c2]
    refine fin _ ?_
    simp only [reduceCtorEq, false_iff]
    intro q; have := q.2.1.2; have := q.2.2.1; omega
  simp -dsimp -implicitDefEqProofs (disch := first | omega | (simp only [lenr]; done) | (simp only [lenr]; omega)) only [↓amPre, amAll, ↓reduceIte, reduceCtorEq, Nat.reduceEqDiff, Nat.reduceBEq, Nat.reduceAdd, Nat.reduceLeDiff, Nat.reduceSub, Nat.reduceMul, Int.reduceToNat, List.size_toArray, tyF, MM, bu0, ipure, kpure, tpure, sspure, kset, tset, ksnoc, tsnoc, Kind.av, Twist.sl, Twist.tr, Invar.av, stsize, stget, sttl, stapp, stext, tsspure, Model.sl, Model.tr, within_iff.2 c2]
  refine callP_of (svalidNames m.nm m.mv.length h.2.1) ?_
  by_cases c3 : m.nm.length = m.mv.length ∧ lettersOk m.nm
  case neg =>
    simp -dsimp -implicitDefEqProofs (disch := first | omega | (simp only [lenr]; done) | (simp only [lenr]; omega)) only [↓amPre, amAll, ↓reduceIte, reduceCtorEq, Nat.reduceEqDiff, Nat.reduceBEq, Nat.reduceAdd, Nat.reduceLeDiff, Nat.reduceSub, Nat.reduceMul, Int.reduceToNat, List.size_toArray, tyF, MM, bu0, ipure, kpure, tpure, sspure, kset, tset, ksnoc, tsnoc, Kind.av, Twist.sl, Twist.tr, Invar.av, stsize, stget, sttl, stapp, stext, tsspure, Model.sl, Model.tr, decide_eq_false c3]
    refine fin _ ?_
    simp only [reduceCtorEq, false_iff]
    intro q; exact c3 ⟨q.2.2.1, q.2.1.1⟩
  simp -dsimp -implicitDefEqProofs (disch := first | omega | (simp only [lenr]; done) | (simp only [lenr]; omega)) only [↓amPre, amAll, ↓reduceIte, reduceCtorEq, Nat.reduceEqDiff, Nat.reduceBEq, Nat.reduceAdd, Nat.reduceLeDiff, Nat.reduceSub, Nat.reduceMul, Int.reduceToNat, List.size_toArray, tyF, MM, bu0, ipure, kpure, tpure, sspure, kset, tset, ksnoc, tsnoc, Kind.av, Twist.sl, Twist.tr, Invar.av, stsize, stget, sttl, stapp, stext, tsspure, Model.sl, Model.tr, decide_eq_true c3]
  have hnk : namesOk m.nm := ⟨c3.2, by omega, by omega⟩
  refine awp_loop (fun k st => k ≤ m.mv.length ∧ st.fr 3 = .i64 k ∧ st.fr 1 = .loc 1 [] 0 0 ∧ st.mem 1 = some (.pt 3 (.agg [ksl m.ks, .st m.nm, tssl m.mv])) ∧ ∀ s ∈ m.mv.take k, psOk m.ks s) (m.mv.length) ?_ ?_
  · simp -dsimp -implicitDefEqProofs (disch := first | omega | (simp only [lenr]; done) | (simp only [lenr]; omega)) only [↓amPre, amAll, ↓reduceIte, reduceCtorEq, Nat.reduceEqDiff, Nat.reduceBEq, Nat.reduceAdd, Nat.reduceLeDiff, Nat.reduceSub, Nat.reduceMul, Int.reduceToNat, List.size_toArray, tyF, MM, bu0, ipure, kpure, tpure, sspure, kset, tset, ksnoc, tsnoc, Kind.av, Twist.sl, Twist.tr, Invar.av, stsize, stget, sttl, stapp, stext, tsspure, Model.sl, Model.tr]
    simp
  rintro k st _ ⟨hk, f3, f1, m1, ek⟩
  by_cases hlt : k < m.mv.length
  · have hsm := h.2.2.2 _ (mem_getD m.mv k default hlt)
    simp -dsimp -implicitDefEqProofs (disch := first | omega | (simp only [lenr]; done) | (simp only [lenr]; omega)) only [↓amPre, amAll, ↓reduceIte, reduceCtorEq, Nat.reduceEqDiff, Nat.reduceBEq, Nat.reduceAdd, Nat.reduceLeDiff, Nat.reduceSub, Nat.reduceMul, Int.reduceToNat, List.size_toArray, tyF, MM, bu0, ipure, kpure, tpure, sspure, kset, tset, ksnoc, tsnoc, Kind.av, Twist.sl, Twist.tr, Invar.av, stsize, stget, sttl, stapp, stext, tsspure, Model.sl, Model.tr, f3, f1, m1]
    refine callP_of (sIsPieceState m.ks (m.mv.getD k default) h.1 hsm.1 hsm.2) ?_
    by_cases w : psOk m.ks (m.mv.getD k default)
    · simp -dsimp -implicitDefEqProofs (disch := first | omega | (simp only [lenr]; done) | (simp only [lenr]; omega)) only [↓amPre, amAll, ↓reduceIte, reduceCtorEq, Nat.reduceEqDiff, Nat.reduceBEq, Nat.reduceAdd, Nat.reduceLeDiff, Nat.reduceSub, Nat.reduceMul, Int.reduceToNat, List.size_toArray, tyF, MM, bu0, ipure, kpure, tpure, sspure, kset, tset, ksnoc, tsnoc, Kind.av, Twist.sl, Twist.tr, Invar.av, stsize, stget, sttl, stapp, stext, tsspure, Model.sl, Model.tr, f3, f1, m1, w]
      repeat' (first | omega | rfl | exact i64c (by omega) | exact vic (by omega) | exact (mem_take_succ (d := default) hlt).2 ⟨ek, w⟩ | apply And.intro)
    · simp -dsimp -implicitDefEqProofs (disch := first | omega | (simp only [lenr]; done) | (simp only [lenr]; omega)) only [↓amPre, amAll, ↓reduceIte, reduceCtorEq, Nat.reduceEqDiff, Nat.reduceBEq, Nat.reduceAdd, Nat.reduceLeDiff, Nat.reduceSub, Nat.reduceMul, Int.reduceToNat, List.size_toArray, tyF, MM, bu0, ipure, kpure, tpure, sspure, kset, tset, ksnoc, tsnoc, Kind.av, Twist.sl, Twist.tr, Invar.av, stsize, stget, sttl, stapp, stext, tsspure, Model.sl, Model.tr, w]
      refine fin _ ?_
      simp only [reduceCtorEq, false_iff]
      intro q; exact w (q.2.2.2 _ (mem_getD m.mv k default hlt))
  · have hke : k = m.mv.length := by omega
    subst hke
    rw [List.take_length] at ek
    simp -dsimp -implicitDefEqProofs (disch := first | omega | (simp only [lenr]; done) | (simp only [lenr]; omega)) only [↓amPre, amAll, ↓reduceIte, reduceCtorEq, Nat.reduceEqDiff, Nat.reduceBEq, Nat.reduceAdd, Nat.reduceLeDiff, Nat.reduceSub, Nat.reduceMul, Int.reduceToNat, List.size_toArray, tyF, MM, bu0, ipure, kpure, tpure, sspure, kset, tset, ksnoc, tsnoc, Kind.av, Twist.sl, Twist.tr, Invar.av, stsize, stget, sttl, stapp, stext, tsspure, Model.sl, Model.tr, f3, f1, m1]
    refine fin _ ?_
    simp only [true_iff]
    exact ⟨c1, hnk, c3.1, ek⟩
end Go.AM
namespace Go.AM
def St.nilC2 (st : St) (s z w : Nat) : St := (st.nilC s 0 z w [.nilsl, .nilsl]).nilC s 1 z w [.tr w [], .nilsl]
end Go.AM
namespace Go.AM
/-! lists of invariants -/
abbrev vsl (l : List Invar) : AV := .sl 2 (l.map Invar.av)
abbrev vtr (l : List Invar) : AV := .tr 2 (l.map Invar.av)
theorem vset (l : List Invar) (i : Nat) (a b : Int) : (l.map Invar.av).set i (.agg [.i64 a, .i64 b]) = (l.set i ⟨a, b⟩).map Invar.av := by rw [List.map_set]; rfl
theorem vsnoc (l : List Invar) (a b : Int) : l.map Invar.av ++ [.agg [.i64 a, .i64 b]] = (l ++ [(⟨a, b⟩ : Invar)]).map Invar.av := by simp [Invar.av]
theorem vpure (l : List Invar) : AV.pureL (l.map Invar.av) = true := pureL_map _ (fun _ => rfl) l
def twL (k : Nat) : List Invar := (List.range k).map fun (i : Nat) => ⟨1, (i : Int)⟩
def paL (k : Nat) : List Invar := (List.range k).map fun (i : Nat) => ⟨2, ((i + 1 : Nat) : Int)⟩
end Go.AM
namespace Go.AM
/-! puzzles, plainly -/
def sizeI (l : List (List Int)) : Nat := match l with | [] => 0 | a :: r => 1 + a.length + sizeI r
structure Puzz where
  n : Int
  nm : List UInt8
  mv : List (List Int)
  deriving DecidableEq
def Puzz.sl (p : Puzz) : AV := .agg [.i64 p.n, .st p.nm, ssl p.mv]
def Puzz.tr (p : Puzz) : AV := .agg [.i64 p.n, .st p.nm, sst p.mv]
end Go.AM
set_option maxRecDepth 8000
namespace Go.AM
open Go.Proofs
instance : Thing (List Int) := ⟨⟩
abbrev smallSS (l : List (List Int)) : Prop := l.length ≤ 1099511627776 ∧ ∀ s ∈ l, s.length ≤ 1099511627776
abbrev wfSS (l : List (List Int)) : Prop := l.length ≤ 9223372036854775807 ∧ ∀ s ∈ l, s.length ≤ 9223372036854775807
theorem eqInt64SS (a b : List (List Int)) (ha : smallSS a) : SpecAt Try.prog 111 [ssl a, ssl b] (.bl (decide (a = b))) := by
  have ha0 := ha.1
  refine spec_of_awp (M := MM) (np := 2) (fz := true) mixed Try.func111 rfl rfl (by decide) rfl (Nat.le_refl _) (by decide +kernel) (.inr ⟨rfl, rfl⟩) trivial ?_
  simp -dsimp -implicitDefEqProofs (disch := first | omega | (simp only [lenr]; done) | (simp only [lenr]; omega)) only [↓amPre, amAll, ↓reduceIte, reduceCtorEq, Nat.reduceEqDiff, Nat.reduceBEq, Nat.reduceAdd, Nat.reduceLeDiff, Nat.reduceSub, Nat.reduceMul, Int.reduceToNat, List.size_toArray, tyF, MM, bu0, ipure, kpure, tpure, sspure, kset, tset, ksnoc, tsnoc, Kind.av, Twist.sl, Twist.tr, Invar.av, stsize, stget, sttl, stapp, stext, tsspure, Model.sl, Model.tr, vset, vsnoc, vpure, Puzz.sl, Puzz.tr]
  refine ifP_mk ?_ ?_ <;> intro h1
  · simp -dsimp -implicitDefEqProofs (disch := first | omega | (simp only [lenr]; done) | (simp only [lenr]; omega)) only [↓amPre, amAll, ↓reduceIte, reduceCtorEq, Nat.reduceEqDiff, Nat.reduceBEq, Nat.reduceAdd, Nat.reduceLeDiff, Nat.reduceSub, Nat.reduceMul, Int.reduceToNat, List.size_toArray, tyF, MM, bu0, ipure, kpure, tpure, sspure, kset, tset, ksnoc, tsnoc, Kind.av, Twist.sl, Twist.tr, Invar.av, stsize, stget, sttl, stapp, stext, tsspure, Model.sl, Model.tr, vset, vsnoc, vpure, Puzz.sl, Puzz.tr, h1]
    have : ¬ a = b := by intro e; subst e; simp at h1
    simp [this]
  simp -dsimp -implicitDefEqProofs (disch := first | omega | (simp only [lenr]; done) | (simp only [lenr]; omega)) only [↓amPre, amAll, ↓reduceIte, reduceCtorEq, Nat.reduceEqDiff, Nat.reduceBEq, Nat.reduceAdd, Nat.reduceLeDiff, Nat.reduceSub, Nat.reduceMul, Int.reduceToNat, List.size_toArray, tyF, MM, bu0, ipure, kpure, tpure, sspure, kset, tset, ksnoc, tsnoc, Kind.av, Twist.sl, Twist.tr, Invar.av, stsize, stget, sttl, stapp, stext, tsspure, Model.sl, Model.tr, vset, vsnoc, vpure, Puzz.sl, Puzz.tr, h1]
  have hab : a.length = b.length := by simp at h1; omega
  refine awp_loop (fun k st => k ≤ a.length ∧ st.fr 5 = .i64 k ∧ st.fr 0 = ssl a ∧ st.fr 1 = ssl b ∧ a.take k = b.take k) (a.length) ?_ ?_
  · simp -dsimp -implicitDefEqProofs (disch := first | omega | (simp only [lenr]; done) | (simp only [lenr]; omega)) only [↓amPre, amAll, ↓reduceIte, reduceCtorEq, Nat.reduceEqDiff, Nat.reduceBEq, Nat.reduceAdd, Nat.reduceLeDiff, Nat.reduceSub, Nat.reduceMul, Int.reduceToNat, List.size_toArray, tyF, MM, bu0, ipure, kpure, tpure, sspure, kset, tset, ksnoc, tsnoc, Kind.av, Twist.sl, Twist.tr, Invar.av, stsize, stget, sttl, stapp, stext, tsspure, Model.sl, Model.tr, vset, vsnoc, vpure, Puzz.sl, Puzz.tr]
    repeat' (first | omega | rfl | exact i64c (by omega) | exact vic (by omega) | apply And.intro)
  rintro k st _ ⟨hk, f5, f0, f1, ek⟩
  by_cases hlt : k < a.length
  · have e1 := ha.2 _ (mem_getD a k default hlt)
    simp -dsimp -implicitDefEqProofs (disch := first | omega | (simp only [lenr]; done) | (simp only [lenr]; omega)) only [↓amPre, amAll, ↓reduceIte, reduceCtorEq, Nat.reduceEqDiff, Nat.reduceBEq, Nat.reduceAdd, Nat.reduceLeDiff, Nat.reduceSub, Nat.reduceMul, Int.reduceToNat, List.size_toArray, tyF, MM, bu0, ipure, kpure, tpure, sspure, kset, tset, ksnoc, tsnoc, Kind.av, Twist.sl, Twist.tr, Invar.av, stsize, stget, sttl, stapp, stext, tsspure, Model.sl, Model.tr, vset, vsnoc, vpure, Puzz.sl, Puzz.tr, f5, f0, f1]
    refine callP_of (eqInt64S (a.getD k default) (b.getD k default) e1) ?_
    cases w1 : decide (a.getD k default = b.getD k default) with
    | false =>
      simp -dsimp -implicitDefEqProofs (disch := first | omega | (simp only [lenr]; done) | (simp only [lenr]; omega)) only [↓amPre, amAll, ↓reduceIte, reduceCtorEq, Nat.reduceEqDiff, Nat.reduceBEq, Nat.reduceAdd, Nat.reduceLeDiff, Nat.reduceSub, Nat.reduceMul, Int.reduceToNat, List.size_toArray, tyF, MM, bu0, ipure, kpure, tpure, sspure, kset, tset, ksnoc, tsnoc, Kind.av, Twist.sl, Twist.tr, Invar.av, stsize, stget, sttl, stapp, stext, tsspure, Model.sl, Model.tr, vset, vsnoc, vpure, Puzz.sl, Puzz.tr, f5, f0, f1, w1]
      simp only [decide_eq_false_iff_not] at w1
      have hne : ¬ a = b := by
        intro e; subst e; exact w1 rfl
      simp [hne]
    | true =>
      simp -dsimp -implicitDefEqProofs (disch := first | omega | (simp only [lenr]; done) | (simp only [lenr]; omega)) only [↓amPre, amAll, ↓reduceIte, reduceCtorEq, Nat.reduceEqDiff, Nat.reduceBEq, Nat.reduceAdd, Nat.reduceLeDiff, Nat.reduceSub, Nat.reduceMul, Int.reduceToNat, List.size_toArray, tyF, MM, bu0, ipure, kpure, tpure, sspure, kset, tset, ksnoc, tsnoc, Kind.av, Twist.sl, Twist.tr, Invar.av, stsize, stget, sttl, stapp, stext, tsspure, Model.sl, Model.tr, vset, vsnoc, vpure, Puzz.sl, Puzz.tr, f5, f0, f1, w1]
      simp only [decide_eq_true_eq] at w1
      repeat' (first | omega | rfl | exact i64c (by omega) | exact vic (by omega) | exact (take_eq_iff default k hlt (by omega)).2 ⟨ek, w1⟩ | apply And.intro)
  · have hke : k = a.length := by omega
    subst hke
    simp -dsimp -implicitDefEqProofs (disch := first | omega | (simp only [lenr]; done) | (simp only [lenr]; omega)) only [↓amPre, amAll, ↓reduceIte, reduceCtorEq, Nat.reduceEqDiff, Nat.reduceBEq, Nat.reduceAdd, Nat.reduceLeDiff, Nat.reduceSub, Nat.reduceMul, Int.reduceToNat, List.size_toArray, tyF, MM, bu0, ipure, kpure, tpure, sspure, kset, tset, ksnoc, tsnoc, Kind.av, Twist.sl, Twist.tr, Invar.av, stsize, stget, sttl, stapp, stext, tsspure, Model.sl, Model.tr, vset, vsnoc, vpure, Puzz.sl, Puzz.tr, f5, f0, f1]
    simp [eq_of_takes hab ek]
def Puzz.size (p : Puzz) : Nat := p.nm.length + sizeI p.mv
abbrev wfP (p : Puzz) : Prop := intOk p.n ∧ p.nm.length ≤ 9223372036854775807 ∧ wfSS p.mv
abbrev smallP (p : Puzz) : Prop := intOk p.n ∧ p.nm.length ≤ 1099511627776 ∧ smallSS p.mv
theorem eqPuzzle (a b : Puzz) (h : smallP a) : SpecAt Try.prog 37 [a.sl, b.sl] (.bl (decide (a = b))) := by
  refine spec_of_awp (M := MM) (np := 2) (fz := true) mixed Try.func37 rfl rfl (by decide) rfl (Nat.le_refl _) (by decide +kernel) (.inr ⟨rfl, rfl⟩) trivial ?_
  obtain ⟨a1, a2, a3⟩ := a
  obtain ⟨b1, b2, b3⟩ := b
  by_cases c1 : a1 = b1
  case neg =>
    simp -dsimp -implicitDefEqProofs (disch := first | omega | (simp only [lenr]; done) | (simp only [lenr]; omega)) only [↓amPre, amAll, ↓reduceIte, reduceCtorEq, Nat.reduceEqDiff, Nat.reduceBEq, Nat.reduceAdd, Nat.reduceLeDiff, Nat.reduceSub, Nat.reduceMul, Int.reduceToNat, List.size_toArray, tyF, MM, bu0, ipure, kpure, tpure, sspure, kset, tset, ksnoc, tsnoc, Kind.av, Twist.sl, Twist.tr, Invar.av, stsize, stget, sttl, stapp, stext, tsspure, Model.sl, Model.tr, vset, vsnoc, vpure, Puzz.sl, Puzz.tr, c1]
    all_goals simp [c1]
  subst c1
  simp -dsimp -implicitDefEqProofs (disch := first | omega | (simp only [lenr]; done) | (simp only [lenr]; omega)) only [↓amPre, amAll, ↓reduceIte, reduceCtorEq, Nat.reduceEqDiff, Nat.reduceBEq, Nat.reduceAdd, Nat.reduceLeDiff, Nat.reduceSub, Nat.reduceMul, Int.reduceToNat, List.size_toArray, tyF, MM, bu0, ipure, kpure, tpure, sspure, kset, tset, ksnoc, tsnoc, Kind.av, Twist.sl, Twist.tr, Invar.av, stsize, stget, sttl, stapp, stext, tsspure, Model.sl, Model.tr, vset, vsnoc, vpure, Puzz.sl, Puzz.tr]
  by_cases c2 : a2 = b2
  case neg =>
    have c2' : (a2 == b2) = false := by simpa using c2
    simp -dsimp -implicitDefEqProofs (disch := first | omega | (simp only [lenr]; done) | (simp only [lenr]; omega)) only [↓amPre, amAll, ↓reduceIte, reduceCtorEq, Nat.reduceEqDiff, Nat.reduceBEq, Nat.reduceAdd, Nat.reduceLeDiff, Nat.reduceSub, Nat.reduceMul, Int.reduceToNat, List.size_toArray, tyF, MM, bu0, ipure, kpure, tpure, sspure, kset, tset, ksnoc, tsnoc, Kind.av, Twist.sl, Twist.tr, Invar.av, stsize, stget, sttl, stapp, stext, tsspure, Model.sl, Model.tr, vset, vsnoc, vpure, Puzz.sl, Puzz.tr, c2']
    all_goals simp [c2]
  subst c2
  have c2' : (a2 == a2) = true := by simp
  simp -dsimp -implicitDefEqProofs (disch := first | omega | (simp only [lenr]; done) | (simp only [lenr]; omega)) only [↓amPre, amAll, ↓reduceIte, reduceCtorEq, Nat.reduceEqDiff, Nat.reduceBEq, Nat.reduceAdd, Nat.reduceLeDiff, Nat.reduceSub, Nat.reduceMul, Int.reduceToNat, List.size_toArray, tyF, MM, bu0, ipure, kpure, tpure, sspure, kset, tset, ksnoc, tsnoc, Kind.av, Twist.sl, Twist.tr, Invar.av, stsize, stget, sttl, stapp, stext, tsspure, Model.sl, Model.tr, vset, vsnoc, vpure, Puzz.sl, Puzz.tr, c2']
  refine callP_of (eqInt64SS a3 b3 h.2.2) ?_
  by_cases c3 : a3 = b3
  · simp -dsimp -implicitDefEqProofs (disch := first | omega | (simp only [lenr]; done) | (simp only [lenr]; omega)) only [↓amPre, amAll, ↓reduceIte, reduceCtorEq, Nat.reduceEqDiff, Nat.reduceBEq, Nat.reduceAdd, Nat.reduceLeDiff, Nat.reduceSub, Nat.reduceMul, Int.reduceToNat, List.size_toArray, tyF, MM, bu0, ipure, kpure, tpure, sspure, kset, tset, ksnoc, tsnoc, Kind.av, Twist.sl, Twist.tr, Invar.av, stsize, stget, sttl, stapp, stext, tsspure, Model.sl, Model.tr, vset, vsnoc, vpure, Puzz.sl, Puzz.tr, c3]
    all_goals simp [c3]
  · simp -dsimp -implicitDefEqProofs (disch := first | omega | (simp only [lenr]; done) | (simp only [lenr]; omega)) only [↓amPre, amAll, ↓reduceIte, reduceCtorEq, Nat.reduceEqDiff, Nat.reduceBEq, Nat.reduceAdd, Nat.reduceLeDiff, Nat.reduceSub, Nat.reduceMul, Int.reduceToNat, List.size_toArray, tyF, MM, bu0, ipure, kpure, tpure, sspure, kset, tset, ksnoc, tsnoc, Kind.av, Twist.sl, Twist.tr, Invar.av, stsize, stget, sttl, stapp, stext, tsspure, Model.sl, Model.tr, vset, vsnoc, vpure, Puzz.sl, Puzz.tr, c3]
    all_goals simp [c3]
end Go.AM
namespace Go.AM
def moveOk (n : Int) (s : List Int) : Prop := (s.length : Int) = n ∧ isPerm s
instance (n : Int) (s : List Int) : Decidable (moveOk n s) := by unfold moveOk; infer_instance
def genOk (n : Int) (mv : List (List Int)) : Prop := (1 ≤ n ∧ n ≤ 20) ∧ mv.length ≤ 8 ∧ ∀ s ∈ mv, moveOk n s
instance (n : Int) (mv : List (List Int)) : Decidable (genOk n mv) := by unfold genOk; infer_instance
def puzzOk (p : Puzz) : Prop := genOk p.n p.mv ∧ namesOk p.nm ∧ p.nm.length = p.mv.length
instance (p : Puzz) : Decidable (puzzOk p) := by unfold puzzOk; infer_instance
def letOk (n : Int) (x : Int) : Prop := x ≠ 0 ∧ (-8 ≤ x ∧ x ≤ 8) ∧ x ≤ n ∧ -x ≤ n
instance (n x : Int) : Decidable (letOk n x) := by unfold letOk; infer_instance
def wordOk (n : Int) (w : List Int) : Prop := w.length ≤ 200 ∧ ∀ x ∈ w, letOk n x
instance (n : Int) (w : List Int) : Decidable (wordOk n w) := by unfold wordOk; infer_instance
def nameAt (l : List UInt8) (i : Nat) : Prop := (65 ≤ (l.getD i 0).toNat ∧ (l.getD i 0).toNat ≤ 90) ∧ ∀ y ∈ l.take i, y ≠ l.getD i 0
instance (l : List UInt8) (i : Nat) : Decidable (nameAt l i) := by unfold nameAt; infer_instance
def sameI (a b : Int) : Prop := a = b ∨ a = -b
instance (a b : Int) : Decidable (sameI a b) := by unfold sameI; infer_instance
def genI (x : Int) : Int := if x < 0 then -x - 1 else x - 1
def runsK (w : List Int) : Nat → List (List Int)
  | 0 => []
  | k + 1 => if 0 < k ∧ sameI (w.getD (k - 1) 0) (w.getD k 0) then (runsK w k).set ((runsK w k).length - 1) ((runsK w k).getD ((runsK w k).length - 1) default ++ [w.getD k 0]) else runsK w k ++ [[w.getD k 0]]
def scrOk (p : Puzz) (w : List Int) : Prop := puzzOk p ∧ wordOk p.mv.length w ∧ (p.mv.length = 1 ∨ ∀ i, 0 < i → i < w.length → ¬ sameI (w.getD (i - 1) 0) (w.getD i 0))
instance (p : Puzz) (w : List Int) : Decidable (scrOk p w) := by
  unfold scrOk
  have : Decidable (∀ i, 0 < i → i < w.length → ¬ sameI (w.getD (i - 1) 0) (w.getD i 0)) := decidable_of_iff (∀ i, i < w.length → 0 < i → ¬ sameI (w.getD (i - 1) 0) (w.getD i 0)) ⟨fun h i a b => h i b a, fun h i a b => h i b a⟩
  infer_instance
end Go.AM
namespace Go.AM
/-! the library's contracts in this machine's words: plain values in, a plain value out -/
theorem Held.same {I : Gh} {w w' : World} (hh : Held I w) (h : ∀ b o x, I b o = some x → w'.heap[b]? = w.heap[b]?) : Held I w' :=
  ⟨fun b o x hx => by
    have h1 := hh.cell b o x hx
    exact ⟨(World.cell?_of_block (w := w) (a := ⟨b, o, none⟩) (h b o x hx)).trans h1.1, h1.2⟩,
   fun b cs hc => by
    obtain ⟨t, f, x, h1, h2⟩ := hh.base b cs hc
    exact ⟨t, f, x, (h b 0 x h2).trans h1, h2⟩⟩
end Go.AM
namespace Go.AM
/-! a sort of the library's, as its own contract tells it, in this machine's words -/
def srt (l : List Int) : List Int := l.mergeSort fun x y => decide (x ≤ y)
theorem putRow_block {α : Type} [Inhabited α] (enc : α → Value) (w : World) (blk off n : Nat) (d : Array α) (os : Array Obj) {arr : Array Value} {E : TypeId} {fr : Nat × Nat} (h : w.heap[blk]? = some (.cells arr E fr)) :
    (Sort.grow (Sort.putRow enc (Sort.ahead w n) blk off d) os).heap[blk]? = some (.cells (Sort.putCells enc off d arr) E fr) := by
  have hlt : blk < w.heap.size := (Array.getElem?_eq_some_iff.1 h).1
  simp only [Sort.grow, Sort.putRow, Sort.mapBlock, Sort.ahead]
  rw [Array.getElem?_append_left (by simpa using hlt), Array.getElem?_modify, if_pos rfl, h]
  rfl
theorem putRow_other {α : Type} [Inhabited α] (enc : α → Value) (w : World) (blk off n : Nat) (d : Array α) (os : Array Obj) {k : Nat} (hk : k < w.heap.size) (hne : k ≠ blk) :
    (Sort.grow (Sort.putRow enc (Sort.ahead w n) blk off d) os).heap[k]? = w.heap[k]? := by
  simp only [Sort.grow, Sort.putRow, Sort.mapBlock, Sort.ahead]
  rw [Array.getElem?_append_left (by simpa using hk), Array.getElem?_modify, if_neg (Ne.symm hne)]
theorem putRow_size {α : Type} [Inhabited α] (enc : α → Value) (w : World) (blk off n : Nat) (d : Array α) (os : Array Obj) : w.heap.size ≤ (Sort.grow (Sort.putRow enc (Sort.ahead w n) blk off d) os).heap.size := by
  simp only [Sort.grow, Sort.putRow, Sort.mapBlock, Sort.ahead, Array.size_append, Array.size_modify]; omega
theorem putCells_get {α : Type} [Inhabited α] (enc : α → Value) (off : Nat) (d : Array α) (c : Array Value) (k : Nat) (hk : k < c.size) : (Sort.putCells enc off d c).getD k undef = if off ≤ k ∧ k < off + d.size then enc d[k - off]! else c.getD k undef := by
  simp only [Sort.putCells, Array.getD_eq_getD_getElem?, Array.getElem?_mapIdx]
  rw [Array.getElem?_eq_getElem hk]
  simp only [Option.map_some, Option.getD_some]
theorem itr_at (l : List Int) : ∀ (ij : Nat × Nat) (p : Path), ((itr l).at (ij :: p)).isNode = false := fun ij p => by
  show (AV.at (((l.map AV.i64).getD ij.1 .any).cells.getD ij.2 .any) p).isNode = false
  by_cases h : ij.1 < l.length
  · rw [gi l _ h]
    show (AV.at (([AV.i64 (l.getD ij.1 0)] : List AV).getD ij.2 .any) p).isNode = false
    cases ij.2 with
    | zero =>
      show (AV.at (AV.i64 (l.getD ij.1 0)) p).isNode = false
      cases p with
      | nil => rfl
      | cons a p =>
        show (AV.at .any p).isNode = false
        rw [any_at]; rfl
    | succ j =>
      show (AV.at .any p).isNode = false
      rw [any_at]; rfl
  · have e : (l.map AV.i64).getD ij.1 .any = .any := getD_ge (by simp; omega)
    rw [e]
    have e2 : (AV.any).cells.getD ij.2 .any = .any := by cases ij.2 <;> rfl
    rw [e2, any_at]; rfl
theorem node_itr {l : List Int} {p : Path} (h : ((itr l).at p).isNode = true) : p = [] := by
  cases p with
  | nil => rfl
  | cons ij p => rw [itr_at] at h; cases h
end Go.AM
namespace Go.Proofs
open Go.Shelf
def Try.delL_ren : Go.Shelf.Ren := ⟨fun | 10 => 196 | 6 => 218 | n => n, fun | 22 => 52 | 23 => 2 | 25 => 139 | 3 => 3 | 4 => 4 | 0 => 0 | n => n, fun | n => n⟩
theorem Try.delL : Go.Proofs.SlLaysH.n10 Try.prog Try.delL_ren := {
  mixed := by kernel_rfl
  f6 := ⟨Try.f218.name, by decide, Try.func218.trans (congrArg some (by kernel_rfl))⟩
  f10 := ⟨Try.f196.name, by decide, Try.func196.trans (congrArg some (by kernel_rfl))⟩
  t0 := Try.underlying0
  a0 := Try.isAgg0
  z0 := Try.sizeOf0
  v0 := Try.zeroValue0
  t3 := Try.underlying3
  a3 := Try.isAgg3
  z3 := Try.sizeOf3
  v3 := Try.zeroValue3
  t4 := Try.underlying4
  a4 := Try.isAgg4
  z4 := Try.sizeOf4
  v4 := Try.zeroValue4
  t22 := Try.underlying52
  a22 := Try.isAgg52
  z22 := Try.sizeOf52
  v22 := Try.zeroValue52
  a23 := Try.isAgg2
  z23 := Try.sizeOf2
  t25 := Try.underlying139
  a25 := Try.isAgg139
  z25 := Try.sizeOf139
  v25 := Try.zeroValue139 }
end Go.Proofs
set_option maxRecDepth 8000
namespace Go.Proofs
open Go.Shelf Go.RowKit Go.Lib Go.Sort
theorem Scr.same (a b : Int) (hb : -9223372036854775807 ≤ b ∧ b ≤ 9223372036854775807) (W : World) : Calls Try.prog 125 #[.int .i64 a, .int .i64 b] W fun e w' => e = .returned (.bool (decide (Go.AM.sameI a b))) ∧ ∃ q, w' = W.drewN q := by
  have e1 : IntKind.i64.wrap (-b) = -b := IntWalk.i64_in _ (by omega)
  have e2 : IntKind.i64.wrap (0 - b) = -b := by rw [Int.zero_sub]; exact e1
  go_enter Try.func125, Try.ntmps125
  go_wp2
  · go_ret
    rename_i h
    exact ⟨by simp [AM.sameI, h], 0, rfl⟩
  · go_ret
    have e3 : (a == b || a == -b) = decide (AM.sameI a b) := by rw [Bool.eq_iff_iff, decide_eq_true_iff]; simp [AM.sameI]
    exact ⟨by rw [← e3]; rfl, 0, rfl⟩
theorem Scr.gives (i x y : Int) (B o1 B2 o2 b off len cap : Nat) (W : World) (hw : W.cell? ⟨B, o1, none⟩ = some (.slice (some ⟨b, off, none⟩) len cap)) (hi : W.cell? ⟨B2, o2, none⟩ = some (.int .i64 i)) (h1 : 1 ≤ i) (h2 : i ≤ len) (h3 : len ≤ 1099511627776)
    (hy : W.cell? ⟨b, off + (i.toNat - 1), none⟩ = some (.int .i64 y)) (hb : -9223372036854775807 ≤ y ∧ y ≤ 9223372036854775807) :
    FnGives Try.prog 197 #[.pointer (some ⟨B, o1, none⟩), .pointer (some ⟨B2, o2, none⟩)] #[.int .i64 x] (.bool (decide (AM.sameI x y))) W := by
  have e1 : IntKind.i64.wrap (i - 1) = i - 1 := IntWalk.i64_in _ (by omega)
  show Calls Try.prog 197 #[.int .i64 x, .pointer (some ⟨B, o1, none⟩), .pointer (some ⟨B2, o2, none⟩)] W _
  go_enter Try.func197, Try.ntmps197
  go_wp2_with (go_at_call 125; refine (Scr.same _ _ hb W).mono ?_; rintro e w' ⟨rfl, q, rfl⟩)
  go_ret
  exact ⟨rfl, q, rfl⟩
end Go.Proofs
set_option maxRecDepth 8000
namespace Go.AM
open Go.Proofs
/-! slices.DeleteFunc with the closure of a scramble -/
theorem holds_row {I : Gh} {π : Pl} {w : World} {l : List Int} {k : Plc} {arr : Array Value} {E : TypeId} (hblk : w.heap[k.b]? = some (.cells arr E (0, 0))) (harr : k.off + l.length ≤ arr.size)
    (hvals : ∀ i, i < l.length → arr.getD (k.off + i) undef = .int .i64 (l.getD i 0)) : Sort.Holds (Value.int .i64) w k.b k.off l.toArray := fun j hj => by
  have hj : j < l.length := by simpa using hj
  have hlt2 : k.off + j < arr.size := by omega
  have hv := hvals j hj
  constructor
  · show (match w.heap[k.b]? with | some (.cells c _ _) => if (none : Option _).isSome then none else c[k.off + j]? | _ => none) = _
    rw [hblk]
    simp only [Option.isSome_none, Bool.false_eq_true, if_false]
    rw [Array.getElem?_eq_getElem hlt2]
    rw [Array.getD_eq_getD_getElem?, Array.getElem?_eq_getElem hlt2, Option.getD_some] at hv
    rw [hv, getD_eq _ _ _ hj]
    simp [hj]
  · show (match w.heap[k.b]? with | some (.cells _ _ (lo, hi)) => decide (lo ≤ k.off + j) && decide (k.off + j < hi) | _ => false) = false
    rw [hblk]; simp
theorem put_facts (W : World) (blk off n : Nat) (d : Array Int) {arr : Array Value} {E : TypeId} {fr : Nat × Nat} (h : W.heap[blk]? = some (.cells arr E fr)) (w' : World) (hw : w' = Sort.putRow (Value.int .i64) (Sort.ahead W n) blk off d) :
    w'.heap[blk]? = some (.cells (Sort.putCells (Value.int .i64) off d arr) E fr) ∧ (∀ b, b < W.heap.size → b ≠ blk → w'.heap[b]? = W.heap[b]?) ∧ W.heap.size ≤ w'.heap.size ∧ (w'.os = W.os ∧ w'.tape = W.tape ∧ w'.output = W.output) := by
  subst hw
  refine ⟨?_, fun b h1 h2 => ?_, ?_, rfl, rfl, rfl⟩
  · have q := putRow_block (Value.int .i64) W blk off n d #[] h
    rwa [Sort.grow_empty] at q
  · have q := putRow_other (Value.int .i64) W blk off n d #[] h1 h2
    rwa [Sort.grow_empty] at q
  · have q := putRow_size (Value.int .i64) W blk off n d #[]
    rwa [Sort.grow_empty] at q
set_option maxHeartbeats 1000000 in
theorem deleteFunc (l w : List Int) (i : Int) (hl : 0 < l.length) (hl2 : l.length ≤ 1099511627776) (h1 : 1 ≤ i) (h2 : i ≤ w.length) (h3 : w.length ≤ 1099511627776) (hv : ∀ x ∈ w, -9223372036854775807 ≤ x ∧ x ≤ 9223372036854775807) :
    SpecX Try.prog 196 [itr l, .fn 197 [.ep [isl w], .ep [.i64 i]]] [] (itr (l.filter fun x => !decide (sameI x (w.getD (i.toNat - 1) 0)))) := by
  refine ⟨⟨_, _, Try.func196, rfl, by decide⟩, by simp, fun j T hj => by simp at hj, fun I π W vals hI hvs hsep htop => ?_⟩
  obtain ⟨v, fv, rfl⟩ : ∃ v fv, vals = #[v, fv] := by
    match vals, hvs with
    | ⟨[a, b]⟩, _ => exact ⟨a, b, rfl⟩
  have h0 : CellOk I (π 0 []) (itr l) v := htop 0 (by simp) (by simp)
  have hf := top_stat (htop 1 (by simp) (by simp)) rfl
  have hf : RepS I (.fn 197 [.ep [isl w], .ep [.i64 i]]) fv := hf
  have hrow := hsep.row 0 (itr l) [] rfl
  -- the row
  rcases h0 with ⟨_, hd⟩ | ⟨h, _⟩
  case inr => cases h
  rcases hd with ⟨k, hk, hkz, hkc, rfl⟩ | ⟨he, a, rfl⟩
  case inr => have h9 := List.map_eq_nil_iff.1 he; rw [h9] at hl; exact absurd hl (Nat.lt_irrefl 0)
  rcases hrow with ⟨hno, _⟩ | ⟨k', E, arr, hk', hz', hc', hcap, hblk, harr, hcell⟩
  · rw [hk] at hno; cases hno
  rw [hk] at hk'; cases hk'
  simp only [List.length_map] at hkc hc' ⊢
  have hlt : k.b < W.heap.size := (Array.getElem?_eq_some_iff.1 hblk).1
  have harr : k.off + l.length ≤ arr.size := by
    have := Nat.mul_le_mul_right 1 hkc
    simp only [hz', Nat.mul_one] at harr; omega
  have hvals : ∀ i, i < l.length → arr.getD (k.off + i) undef = .int .i64 (l.getD i 0) := fun i hi => by
    have h := (hcell i (by simpa using hi)).2 0 (by simp [AV.cells])
    have h1 : CellOk I (π 0 [(i, 0)]) (AV.i64 l[i]) (arr.getD (k.off + i) undef) := by have h3 := h.1; simpa [AV.cells] using h3
    rcases h1 with ⟨h2, _⟩ | ⟨_, h2⟩
    · cases h2
    · rw [getD_eq _ _ _ hi]
      exact rep_v (.stat (ρ := π) h2)
  have hholds := holds_row (I := I) (π := π) hblk harr hvals
  have hfree := hsep.free 0 (itr l) [] k rfl rfl hk
  -- the closure's variables
  obtain ⟨x0, x1, rfl, hr0, hr1⟩ : ∃ x0 x1 : Value, fv = .func (.func 197) #[] #[x0, x1] ∧ RepS I (.ep [isl w]) x0 ∧ RepS I (.ep [.i64 i]) x1 := by
    cases hf with
    | fn _ _ arr2 hn hr =>
      have hn2 : arr2.size = 2 := by simpa using hn
      have e : arr2 = #[arr2[0], arr2[1]] := by
        apply Array.ext
        · simp [hn2]
        · intro j hj1 hj2
          have hj : j = 0 ∨ j = 1 := by omega
          rcases hj with rfl | rfl <;> simp
      exact ⟨arr2[0], arr2[1], by rw [← e], hr 0 (by simp) (by omega), hr 1 (by simp) (by omega)⟩
  obtain ⟨B, o1, rfl, hd1, c1, r1⟩ : ∃ B o1, x0 = .pointer (some ⟨B, o1, none⟩) ∧ ∃ hd, I B o1 = some hd ∧ RepS I (isl w) hd := by
    cases hr0 with
    | ep _ b off vals hI' hr' => exact ⟨b, off, rfl, vals 0, hI' 0 (by simp), hr' 0 (by simp)⟩
  obtain ⟨B2, o2, rfl, c2⟩ : ∃ B o1, x1 = .pointer (some ⟨B, o1, none⟩) ∧ I B o1 = some (.int .i64 i) := by
    cases hr1 with
    | ep _ b off vals hI' hr' =>
      have q : RepS I (.i64 i) (vals 0) := hr' 0 (by simp)
      have q2 := rep_v (.stat (ρ := π) q)
      have q3 := hI' 0 (by simp)
      rw [q2] at q3
      exact ⟨b, off, rfl, q3⟩
  have hwn : 0 < w.length := by omega
  obtain ⟨b, off, cap, rfl, c3⟩ : ∃ b off cap, hd1 = .slice (some ⟨b, off, none⟩) w.length cap ∧ ∀ j, j < w.length → I b (off + j) = some (.int .i64 (w.getD j 0)) := by
    have r1 : RepS I (.sl 1 (w.map AV.i64)) hd1 := r1
    generalize hes : w.map AV.i64 = es at r1
    have hel : es.length = w.length := by rw [← hes]; simp
    cases r1 with
    | nil => simp at hel; omega
    | nila => simp at hel; omega
    | sl _ _ b off cap vs hsz hc hI' hr' =>
      refine ⟨b, off, cap, by rw [hel], fun j hj => ?_⟩
      have hj' : j < es.length := by omega
      have e : es[j] = AV.i64 (w.getD j 0) := by subst hes; simp [List.getD, hj]
      have hlen : 0 < (es[j]).cells.length := by rw [e]; simp [AV.cells]
      have q := hr' j hj' 0 hlen
      have e2 : (es[j]).cells[0] = AV.i64 (w.getD j 0) := by
        have : (es[j]).cells = [AV.i64 (w.getD j 0)] := by rw [e]; rfl
        simp [this]
      rw [e2] at q
      have q2 := rep_v (.stat (ρ := π) q)
      have q3 := hI' j hj' 0 (by omega)
      rw [q2] at q3
      simpa using q3
  have hy := c3 (i.toNat - 1) (by omega)
  have hb : -9223372036854775807 ≤ w.getD (i.toNat - 1) 0 ∧ w.getD (i.toNat - 1) 0 ≤ 9223372036854775807 := by
    rw [getD_eq _ _ _ (by omega)]; exact hv _ (List.getElem_mem (by omega))
  generalize hyv : w.getD (i.toNat - 1) 0 = y at hy hb ⊢
  have ne : ∀ {B o x}, I B o = some x → B ≠ k.b := fun h e => by rw [e, hfree] at h; cases h
  have gives : ∀ (W' : World) (x : Int), (∀ B o z, I B o = some z → W'.cell? ⟨B, o, none⟩ = some z) → FnGives Try.prog 197 #[.pointer (some ⟨B, o1, none⟩), .pointer (some ⟨B2, o2, none⟩)] #[.int .i64 x] (.bool (decide (sameI x y))) W' := fun W' x h =>
    Scr.gives i x y B o1 B2 o2 b off w.length cap W' (h _ _ _ c1) (h _ _ _ c2) h1 h2 h3 (h _ _ _ hy) hb
  have eg : ∀ args w, (callFunc 197 args).run Try.prog w = .ok (.enter 197 args) w := enters_of Try.func197 (by kernel_rfl) rfl
  have key := AnyE.slices_DeleteFunc Try.delL (Value.int .i64) (fun _ => rfl) (fun x => decide (sameI x y)) 197 #[.pointer (some ⟨B, o1, none⟩), .pointer (some ⟨B2, o2, none⟩)] eg 0 Try.zeroValue2 k.b k.off k.cap l.toArray W
    (fun W' x hb' => gives W' x fun B o z hz => (hb'.cell (p := ⟨B, o, none⟩) (hI.lt hz)).trans (hI.cell _ _ _ hz).1)
    (fun n os dk x _ => gives _ x fun B o z hz => by
      unfold sortWorld
      rw [Sort.cell?_grow _ _ _ (by show B < (Sort.putRow _ _ _ _ _).heap.size; rw [Sort.size_putRow]; exact hI.lt hz), Sort.cell?_putRow_other _ _ k.b k.off _ _ (Or.inl (ne hz))]
      exact (hI.cell _ _ _ hz).1)
    hholds (by simp; omega) (by simpa using hkc)
  have key : Calls Try.prog 196 #[.slice (some ⟨k.b, k.off, none⟩) l.length k.cap, .func (.func 197) #[] #[.pointer (some ⟨B, o1, none⟩), .pointer (some ⟨B2, o2, none⟩)]] W fun e w' =>
      e = .returned (.slice (some ⟨k.b, k.off, none⟩) (l.filter fun x => !decide (sameI x y)).length k.cap) ∧ ∃ q, w' = Sort.putRow (Value.int .i64) (Sort.ahead W q) k.b k.off ((l.filter fun x => !decide (sameI x y)) ++ List.replicate (l.length - (l.filter fun x => !decide (sameI x y)).length) 0).toArray := by
    have e1 : l.toArray.toList = l := rfl
    have e2 : l.toArray.size = l.length := rfl
    rw [e1, e2] at key
    exact key
  have hfl : (l.filter fun x => !decide (sameI x y)).length ≤ l.length := List.length_filter_le _ _
  generalize (l.filter fun x => !decide (sameI x y)) = r at key hfl ⊢
  refine key.mono ?_
  rintro e w' ⟨rfl, n, hw⟩
  obtain ⟨hb', ho', hsz, hos⟩ := put_facts W k.b k.off n _ hblk w' hw
  clear hw key
  have hmem : ∀ {i T p}, outMem 2 [] (itr r) i = some T → (T.at p).isNode = true → i = 2 ∧ T = itr r ∧ p = [] := fun {i T p} h1 h2 => by
    unfold outMem at h1
    split at h1
    · rename_i e; cases h1; exact ⟨e, rfl, node_itr h2⟩
    · simp at h1
  have hown : Owns π (fun j => ([itr l, .fn 197 [.ep [isl w], .ep [.i64 i]]] : List AV)[j]?) k.b := ⟨0, itr l, [], k, rfl, rfl, hk, rfl⟩
  have hlen2 : ([itr l, .fn 197 [.ep [isl w], .ep [.i64 i]]] : List AV).length = 2 := rfl
  rw [hlen2]
  refine ⟨I, fun _ => π 0, _, rfl, hI.same fun b o x hx => ho' b (hI.lt hx) (ne hx), ⟨fun i T p h1 => ?_, fun i T p k2 h1 h2 h3 => ?_, fun i T p k2 i' T' p' k2' h1 h2 h3 h1' h2' h3' he => ?_⟩, .inl ⟨rfl, .inl ⟨k, hk, hkz, by simp; omega, by simp⟩⟩, fun j T hT => by simp at hT, ⟨hos.1, hos.2.1, hos.2.2, hsz, fun b h1 h2 => ?_⟩, fun _ _ _ => rfl, fun b hb2 => ?_⟩
  · cases hnn : (T.at p).isNode with
    | false => exact node_false hnn
    | true =>
      obtain ⟨rfl, rfl, rfl⟩ := hmem h1 hnn
      refine .inr ⟨k, E, _, hk, hkz, by simp; omega, hcap, hb', by simpa [Sort.putCells] using (by assumption : k.off + k.cap * 1 ≤ arr.size), fun i hi => ?_⟩
      have hi : i < r.length := by simpa using hi
      have hia : k.off + i < arr.size := by omega
      refine ⟨by simp [AV.cells], fun j hj => ?_⟩
      have hj : j = 0 := by simp [AV.cells] at hj; exact hj
      subst hj
      simp only [List.getElem_map, Nat.mul_one, Nat.add_zero]
      rw [putCells_get _ _ _ _ _ hia, if_pos ⟨by omega, by simp; omega⟩]
      have e : (r ++ List.replicate (l.length - r.length) 0).toArray[k.off + i - k.off]! = r[i] := by
        rw [show k.off + i - k.off = i by omega]
        have h8 : i < (r ++ List.replicate (l.length - r.length) (0 : Int)).toArray.size := by simp; omega
        rw [getElem!_pos (r ++ List.replicate (l.length - r.length) (0 : Int)).toArray i h8]
        simp [List.getElem_append_left hi]
      rw [e]
      exact ⟨.inr ⟨rfl, .v _⟩, rfl⟩
  · obtain ⟨rfl, rfl, rfl⟩ := hmem h1 h2
    exact hsep.free 0 (itr l) [] k2 rfl rfl h3
  · obtain ⟨rfl, rfl, rfl⟩ := hmem h1 h2
    obtain ⟨rfl, rfl, rfl⟩ := hmem h1' h2'
    exact ⟨rfl, rfl⟩
  · exact ho' b h1 fun e => by subst e; exact h2 hown
  · obtain ⟨i, T, p, k2, h1, h2, h3, rfl⟩ := hb2
    obtain ⟨rfl, rfl, rfl⟩ := hmem h1 h2
    exact .inl ⟨0, itr l, [], k2, rfl, rfl, h3, rfl⟩
end Go.AM
namespace Go.AM
/-! words of scrambles, plainly -/
def nextR (x : Int) : Int := (48271 * (if x.tmod 2147483647 < 0 then x.tmod 2147483647 + 2147483647 else x.tmod 2147483647) + 11).tmod 2147483647
theorem nextR_bd {x : Int} (h0 : 0 ≤ x) : 0 ≤ nextR x ∧ nextR x < 2147483647 := by
  have h1 : 0 ≤ x.tmod 2147483647 := Int.tmod_nonneg _ h0
  unfold nextR
  rw [if_neg (by omega)]
  have h2 : 0 ≤ 48271 * x.tmod 2147483647 + 11 := by omega
  exact ⟨Int.tmod_nonneg _ h2, Int.tmod_lt_of_pos _ (by omega)⟩
def rndK (x : Int) : Nat → Int
  | 0 => x
  | k + 1 => nextR (rndK x k)
theorem rndK_bd {x : Int} (h0 : 0 ≤ x) (h1 : x < 2147483647) : ∀ k, 0 ≤ rndK x k ∧ rndK x k < 2147483647
  | 0 => ⟨h0, h1⟩
  | k + 1 => nextR_bd (rndK_bd h0 h1 k).1
def letL : Nat → List Int
  | 0 => []
  | k + 1 => letL k ++ [(k : Int) + 1, -((k : Int) + 1)]
theorem letL_len : ∀ n, (letL n).length = 2 * n
  | 0 => rfl
  | n + 1 => by rw [letL, List.length_append, letL_len n]; simp; omega
theorem letL_mem : ∀ {n : Nat} {x : Int}, x ∈ letL n ↔ x ≠ 0 ∧ -(n : Int) ≤ x ∧ x ≤ n
  | 0, x => by simp [letL]; omega
  | n + 1, x => by
    rw [letL, List.mem_append, letL_mem]
    simp only [List.mem_cons, List.not_mem_nil, or_false]
    omega
def lastW (w : List Int) : Int := w.getD (w.length - 1) 0
def cndL (n : Nat) (w : List Int) : List Int := if w ≠ [] ∧ 1 < n then (letL n).filter (fun x => !decide (sameI x (lastW w))) else letL n
def cndB (n : Nat) (w : List Int) (k : Nat) : Prop := n = 1 ∨ w = [] ∨ genI (lastW w) ≠ k
instance (n : Nat) (w : List Int) (k : Nat) : Decidable (cndB n w k) := by unfold cndB; infer_instance
def cndS (n : Nat) (w : List Int) : Nat → List Int
  | 0 => []
  | k + 1 => if cndB n w k then cndS n w k ++ [(k : Int) + 1, -(k : Int) - 1] else cndS n w k
theorem cndL_mem {n : Nat} {w : List Int} {x : Int} (h : x ∈ cndL n w) : x ∈ letL n := by
  unfold cndL at h
  split at h
  · exact (List.mem_filter.1 h).1
  · exact h
theorem cndL_len {n : Nat} {w : List Int} (hn : 1 ≤ n) : 0 < (cndL n w).length ∧ (cndL n w).length ≤ 2 * n := by
  unfold cndL
  split
  · rename_i c
    refine ⟨?_, by have := List.length_filter_le (fun x => !decide (sameI x (lastW w))) (letL n); rw [letL_len] at this; exact this⟩
    by_cases h : sameI 1 (lastW w)
    · refine List.length_pos_of_mem (a := 2) (List.mem_filter.2 ⟨letL_mem.2 ⟨by omega, by omega, by omega⟩, ?_⟩)
      have : ¬ sameI 2 (lastW w) := by unfold sameI at h ⊢; omega
      simp [this]
    · exact List.length_pos_of_mem (a := 1) (List.mem_filter.2 ⟨letL_mem.2 ⟨by omega, by omega, by omega⟩, by simp [h]⟩)
  · rw [letL_len]; omega
def scrW (n : Nat) (x : Int) : Nat → List Int
  | 0 => []
  | k + 1 => scrW n x k ++ [(cndL n (scrW n x k)).getD ((rndK x (k + 1)).tmod (cndL n (scrW n x k)).length).toNat 0]
theorem scrW_len (n : Nat) (x : Int) : ∀ k, (scrW n x k).length = k
  | 0 => rfl
  | k + 1 => by rw [scrW, List.length_append, scrW_len n x k]; rfl
theorem scr_ix {n : Nat} {x : Int} (hn : 1 ≤ n) (h0 : 0 ≤ x) (h1 : x < 2147483647) (k : Nat) (w : List Int) : 0 ≤ (rndK x (k + 1)).tmod (cndL n w).length ∧ (rndK x (k + 1)).tmod (cndL n w).length < (cndL n w).length := by
  have hl := cndL_len (n := n) (w := w) hn
  exact ⟨Int.tmod_nonneg _ (rndK_bd h0 h1 (k + 1)).1, Int.tmod_lt_of_pos _ (by omega)⟩
theorem scrW_mem {n : Nat} {x : Int} (hn : 1 ≤ n) (h0 : 0 ≤ x) (h1 : x < 2147483647) : ∀ k, ∀ y ∈ scrW n x k, y ∈ letL n
  | 0, y, h => by cases h
  | k + 1, y, h => by
    rw [scrW, List.mem_append] at h
    rcases h with h | h
    · exact scrW_mem hn h0 h1 k y h
    · have hi := scr_ix hn h0 h1 k (scrW n x k)
      rw [List.mem_singleton] at h
      subst h
      have hlt : ((rndK x (k + 1)).tmod (cndL n (scrW n x k)).length).toNat < (cndL n (scrW n x k)).length := by omega
      rw [getD_eq _ _ _ hlt]
      exact cndL_mem (List.getElem_mem hlt)
end Go.AM
set_option maxRecDepth 8000
namespace Go.AM
open Go.Proofs
theorem iNext (x : Int) (hx : intOk x) : SpecAt Try.prog 198 [.i64 x] (.i64 (nextR x)) := by
  have hb : -2147483647 < x.tmod 2147483647 ∧ x.tmod 2147483647 < 2147483647 := by
    have h1 := Int.tmod_lt_of_pos x (b := 2147483647) (by omega)
    have h2 := Int.lt_tmod_of_pos x (b := 2147483647) (by omega)
    exact ⟨h2, h1⟩
  refine spec_of_awp (M := MM) (np := 1) (fz := true) mixed Try.func198 rfl rfl (by decide) rfl (Nat.le_refl _) (by decide +kernel) (.inr ⟨rfl, rfl⟩) trivial ?_
  unfold nextR
  generalize hyd : x.tmod 2147483647 = y at hb ⊢
  by_cases c : y < 0
  · rw [if_pos c]
    simp -dsimp -implicitDefEqProofs (disch := first | omega | (simp only [lenr]; done) | (simp only [lenr]; omega)) only [↓amPre, amAll, ↓reduceIte, reduceCtorEq, Nat.reduceEqDiff, Nat.reduceBEq, Nat.reduceAdd, Nat.reduceLeDiff, Nat.reduceSub, Nat.reduceMul, Int.reduceToNat, List.size_toArray, tyF, MM, bu0, ipure, kpure, tpure, sspure, kset, tset, ksnoc, tsnoc, Kind.av, Twist.sl, Twist.tr, Invar.av, stsize, stget, sttl, stapp, stext, tsspure, Model.sl, Model.tr, vset, vsnoc, vpure, Puzz.sl, Puzz.tr, hyd, lt_true c]
  · rw [if_neg c]
    simp -dsimp -implicitDefEqProofs (disch := first | omega | (simp only [lenr]; done) | (simp only [lenr]; omega)) only [↓amPre, amAll, ↓reduceIte, reduceCtorEq, Nat.reduceEqDiff, Nat.reduceBEq, Nat.reduceAdd, Nat.reduceLeDiff, Nat.reduceSub, Nat.reduceMul, Int.reduceToNat, List.size_toArray, tyF, MM, bu0, ipure, kpure, tpure, sspure, kset, tset, ksnoc, tsnoc, Kind.av, Twist.sl, Twist.tr, Invar.av, stsize, stget, sttl, stapp, stext, tsspure, Model.sl, Model.tr, vset, vsnoc, vpure, Puzz.sl, Puzz.tr, hyd, lt_false (Int.not_lt.1 c)]

theorem lettersI (n : Nat) (hn : n ≤ 8) : SpecAt Try.prog 195 [.i64 n] (itr (letL n)) := by
  refine spec_of_awp (M := MM) (np := 1) (fz := false) mixed Try.func195 rfl rfl (by decide) rfl (Nat.le_refl _) (by decide +kernel) (.inl rfl) (by first | trivial | simp only [sigsOk_nil, sigsOk_some, sigsOk_none, sig_tr, sig_pt, sig_mt, sig_agg, List.map_cons, List.map_nil, sig1_tr, sig1_pt, sig1_v, and_self, true_and, List.length_map, List.length_set]) ?_
  simp -dsimp -implicitDefEqProofs (disch := first | omega | (simp only [lenr]; done) | (simp only [lenr]; omega)) only [↓amPre, amAll, ↓reduceIte, reduceCtorEq, Nat.reduceEqDiff, Nat.reduceBEq, Nat.reduceAdd, Nat.reduceLeDiff, Nat.reduceSub, Nat.reduceMul, Int.reduceToNat, List.size_toArray, tyF, MM, bu0, ipure, kpure, tpure, sspure, kset, tset, ksnoc, tsnoc, Kind.av, Twist.sl, Twist.tr, Invar.av, stsize, stget, sttl, stapp, stext, tsspure, Model.sl, Model.tr, vset, vsnoc, vpure, Puzz.sl, Puzz.tr]
  refine awp_loopN 3 16 1 (by simp -dsimp -implicitDefEqProofs (disch := first | omega | (simp only [lenr]; done) | (simp only [lenr]; omega)) only [↓amPre, amAll, ↓reduceIte, reduceCtorEq, Nat.reduceEqDiff, Nat.reduceBEq, Nat.reduceAdd, Nat.reduceLeDiff, Nat.reduceSub, Nat.reduceMul, Int.reduceToNat, List.size_toArray, tyF, MM, bu0, ipure, kpure, tpure, sspure, kset, tset, ksnoc, tsnoc, Kind.av, Twist.sl, Twist.tr, Invar.av, stsize, stget, sttl, stapp, stext, tsspure, Model.sl, Model.tr, vset, vsnoc, vpure, Puzz.sl, Puzz.tr]) (by decide) (fun k st => k ≤ n ∧ st.fr 6 = .i64 k ∧ st.fr 5 = .i64 n ∧ st.fr 3 = .ref 16 [] 1 0 (2 * k) ∧ st.mem 16 = some (itr (letL k))) (n) ?_ ?_
  · simp -dsimp -implicitDefEqProofs (disch := first | omega | (simp only [lenr]; done) | (simp only [lenr]; omega)) only [↓amPre, amAll, ↓reduceIte, reduceCtorEq, Nat.reduceEqDiff, Nat.reduceBEq, Nat.reduceAdd, Nat.reduceLeDiff, Nat.reduceSub, Nat.reduceMul, Int.reduceToNat, List.size_toArray, tyF, MM, bu0, ipure, kpure, tpure, sspure, kset, tset, ksnoc, tsnoc, Kind.av, Twist.sl, Twist.tr, Invar.av, stsize, stget, sttl, stapp, stext, tsspure, Model.sl, Model.tr, vset, vsnoc, vpure, Puzz.sl, Puzz.tr, nilAs_eq]
    simp [letL]
  rintro k st _ ⟨hk, f6, f5, f3, m16⟩
  have hl := letL_len k
  by_cases hlt : k < n
  · simp -dsimp -implicitDefEqProofs (disch := first | omega | (simp only [lenr]; done) | (simp only [lenr]; omega)) only [↓amPre, amAll, ↓reduceIte, reduceCtorEq, Nat.reduceEqDiff, Nat.reduceBEq, Nat.reduceAdd, Nat.reduceLeDiff, Nat.reduceSub, Nat.reduceMul, Int.reduceToNat, List.size_toArray, tyF, MM, bu0, ipure, kpure, tpure, sspure, kset, tset, ksnoc, tsnoc, Kind.av, Twist.sl, Twist.tr, Invar.av, stsize, stget, sttl, stapp, stext, tsspure, Model.sl, Model.tr, vset, vsnoc, vpure, Puzz.sl, Puzz.tr, f6, f5, f3, m16, hl]
    refine ⟨hlt, by omega, by rw [show 2 * k + 2 = 2 * (k + 1) by omega], ?_⟩
    simp [letL]
  · have hk : k = n := by omega
    subst hk
    simp -dsimp -implicitDefEqProofs (disch := first | omega | (simp only [lenr]; done) | (simp only [lenr]; omega)) only [↓amPre, amAll, ↓reduceIte, reduceCtorEq, Nat.reduceEqDiff, Nat.reduceBEq, Nat.reduceAdd, Nat.reduceLeDiff, Nat.reduceSub, Nat.reduceMul, Int.reduceToNat, List.size_toArray, tyF, MM, bu0, ipure, kpure, tpure, sspure, kset, tset, ksnoc, tsnoc, Kind.av, Twist.sl, Twist.tr, Invar.av, stsize, stget, sttl, stapp, stext, tsspure, Model.sl, Model.tr, vset, vsnoc, vpure, Puzz.sl, Puzz.tr, f6, f5, f3, m16, hl]
end Go.AM
set_option maxRecDepth 8000
namespace Go.AM
open Go.Proofs
theorem fzL_ints : ∀ l : List Int, AV.fzL (l.map AV.i64) = l.map AV.i64
  | [] => by simp [AV.fzL]
  | a :: r => by simp [AV.fzL, AV.fz, fzL_ints r]
theorem scr_bd {n : Nat} {x : Int} (hn : 1 ≤ n) (hn8 : n ≤ 8) (h0 : 0 ≤ x) (h1 : x < 2147483647) (k : Nat) : ∀ y ∈ scrW n x k, -9223372036854775807 ≤ y ∧ y ≤ 9223372036854775807 := fun y hy => by
  have := letL_mem.1 (scrW_mem hn h0 h1 k y hy); omega
theorem scramble (p : Puzz) (x : Int) (c : Nat) (hn : 1 ≤ p.mv.length ∧ p.mv.length ≤ 8) (h0 : 0 ≤ x) (h1 : x < 2147483647) (hc : c ≤ 200) : SpecAt Try.prog 120 [p.sl, .i64 x, .i64 c] (itr (scrW p.mv.length x c)) := by
  refine spec_of_awp_any (M := MM) (np := 3) (X := [9]) (fz := false) mixed Try.func120 rfl rfl (by decide) rfl (Nat.le_refl _) (by decide +kernel) (.inl rfl) (by first | trivial | simp only [sigsOk_nil, sigsOk_some, sigsOk_none, sig_tr, sig_pt, sig_mt, sig_agg, List.map_cons, List.map_nil, sig1_tr, sig1_pt, sig1_v, and_self, true_and, List.length_map, List.length_set]) ?_
  simp -dsimp -implicitDefEqProofs (disch := first | omega | (simp only [lenr]; done) | (simp only [lenr]; omega)) only [↓amPre, amAll, ↓reduceIte, reduceCtorEq, Nat.reduceEqDiff, Nat.reduceBEq, Nat.reduceAdd, Nat.reduceLeDiff, Nat.reduceSub, Nat.reduceMul, Int.reduceToNat, List.size_toArray, tyF, MM, bu0, ipure, kpure, tpure, sspure, kset, tset, ksnoc, tsnoc, Kind.av, Twist.sl, Twist.tr, Invar.av, stsize, stget, sttl, stapp, stext, tsspure, Model.sl, Model.tr, vset, vsnoc, vpure, Puzz.sl, Puzz.tr]
  refine awp_loop (fun k st => k ≤ c ∧ st.fr 11 = .i64 k ∧ st.fr 10 = .i64 c ∧ st.fr 1 = .i64 (rndK x k) ∧ st.fr 7 = .loc 7 [] 0 0 ∧ st.fr 3 = .loc 3 [] 0 0 ∧ st.mem 3 = some (.pt 3 p.sl) ∧ ((k = 0 ∧ st.mem 7 = some (.pt 1 .nilsl)) ∨ (0 < k ∧ st.mem 7 = some (.pt 1 (itr (scrW p.mv.length x k)))))) (c) ?_ ?_
  · simp -dsimp -implicitDefEqProofs (disch := first | omega | (simp only [lenr]; done) | (simp only [lenr]; omega)) only [↓amPre, amAll, ↓reduceIte, reduceCtorEq, Nat.reduceEqDiff, Nat.reduceBEq, Nat.reduceAdd, Nat.reduceLeDiff, Nat.reduceSub, Nat.reduceMul, Int.reduceToNat, List.size_toArray, tyF, MM, bu0, ipure, kpure, tpure, sspure, kset, tset, ksnoc, tsnoc, Kind.av, Twist.sl, Twist.tr, Invar.av, stsize, stget, sttl, stapp, stext, tsspure, Model.sl, Model.tr, vset, vsnoc, vpure, Puzz.sl, Puzz.tr]
    exact ⟨by omega, rfl, rfl⟩
  rintro k st _ ⟨hk, f11, f10, f1, f7, f3, m3, ek⟩
  have hl := scrW_len p.mv.length x k
  have hr := rndK_bd h0 h1 k
  have hr1 := rndK_bd h0 h1 (k + 1)
  have hix := scr_ix hn.1 h0 h1 k (scrW p.mv.length x k)
  have hcl := cndL_len (n := p.mv.length) (w := scrW p.mv.length x k) hn.1
  have hst : scrW p.mv.length x (k + 1) = scrW p.mv.length x k ++ [(cndL p.mv.length (scrW p.mv.length x k)).getD ((rndK x (k + 1)).tmod (cndL p.mv.length (scrW p.mv.length x k)).length).toNat 0] := rfl
  have hrs : nextR (rndK x k) = rndK x (k + 1) := rfl
  have hll := letL_len p.mv.length
  by_cases hlt : k < c
  · rcases ek with ⟨rfl, m7⟩ | ⟨hk0, m7⟩
    · have hcl0 : cndL p.mv.length (scrW p.mv.length x 0) = letL p.mv.length := by simp [cndL, scrW]
      rw [hcl0] at hix hcl hst
      rw [hll] at hix hst
      simp only [Nat.zero_add] at hix hst hr1
      simp -dsimp -implicitDefEqProofs (disch := first | omega | (simp only [lenr]; done) | (simp only [lenr]; omega)) only [↓amPre, amAll, ↓reduceIte, reduceCtorEq, Nat.reduceEqDiff, Nat.reduceBEq, Nat.reduceAdd, Nat.reduceLeDiff, Nat.reduceSub, Nat.reduceMul, Int.reduceToNat, List.size_toArray, tyF, MM, bu0, ipure, kpure, tpure, sspure, kset, tset, ksnoc, tsnoc, Kind.av, Twist.sl, Twist.tr, Invar.av, stsize, stget, sttl, stapp, stext, tsspure, Model.sl, Model.tr, vset, vsnoc, vpure, Puzz.sl, Puzz.tr, f11, f10, f1, f7, f3, m3, m7]
      refine callP_of (lettersI _ hn.2) ?_
      simp -dsimp -implicitDefEqProofs (disch := first | omega | (simp only [lenr]; done) | (simp only [lenr]; omega)) only [↓amPre, amAll, ↓reduceIte, reduceCtorEq, Nat.reduceEqDiff, Nat.reduceBEq, Nat.reduceAdd, Nat.reduceLeDiff, Nat.reduceSub, Nat.reduceMul, Int.reduceToNat, List.size_toArray, tyF, MM, bu0, ipure, kpure, tpure, sspure, kset, tset, ksnoc, tsnoc, Kind.av, Twist.sl, Twist.tr, Invar.av, stsize, stget, sttl, stapp, stext, tsspure, Model.sl, Model.tr, vset, vsnoc, vpure, Puzz.sl, Puzz.tr, f11, f10, f1, f7, f3, m3, m7, hll]
      refine callP_of (iNext _ (by unfold intOk; omega)) ?_
      simp -dsimp -implicitDefEqProofs (disch := first | omega | (simp only [lenr]; done) | (simp only [lenr]; omega)) only [↓amPre, amAll, ↓reduceIte, reduceCtorEq, Nat.reduceEqDiff, Nat.reduceBEq, Nat.reduceAdd, Nat.reduceLeDiff, Nat.reduceSub, Nat.reduceMul, Int.reduceToNat, List.size_toArray, tyF, MM, bu0, ipure, kpure, tpure, sspure, kset, tset, ksnoc, tsnoc, Kind.av, Twist.sl, Twist.tr, Invar.av, stsize, stget, sttl, stapp, stext, tsspure, Model.sl, Model.tr, vset, vsnoc, vpure, Puzz.sl, Puzz.tr, f11, f10, f1, f7, f3, m3, m7, hll, hrs]
      refine split_go 9 (by decide +kernel) ?_
      simp -dsimp -implicitDefEqProofs (disch := first | omega | (simp only [lenr]; done) | (simp only [lenr]; omega)) only [↓amPre, amAll, ↓reduceIte, reduceCtorEq, Nat.reduceEqDiff, Nat.reduceBEq, Nat.reduceAdd, Nat.reduceLeDiff, Nat.reduceSub, Nat.reduceMul, Int.reduceToNat, List.size_toArray, tyF, MM, bu0, ipure, kpure, tpure, sspure, kset, tset, ksnoc, tsnoc, Kind.av, Twist.sl, Twist.tr, Invar.av, stsize, stget, sttl, stapp, stext, tsspure, Model.sl, Model.tr, vset, vsnoc, vpure, Puzz.sl, Puzz.tr, f11, f10, f1, f7, f3, m3, m7, hll, hrs]
      refine callP_of (lenI (letL p.mv.length)) ?_
      generalize hC : letL p.mv.length = C at hix hcl hst hll ⊢
      simp -dsimp -implicitDefEqProofs (disch := first | omega | (simp only [lenr]; done) | (simp only [lenr]; omega)) only [↓amPre, amAll, ↓reduceIte, reduceCtorEq, Nat.reduceEqDiff, Nat.reduceBEq, Nat.reduceAdd, Nat.reduceLeDiff, Nat.reduceSub, Nat.reduceMul, Int.reduceToNat, List.size_toArray, tyF, MM, bu0, ipure, kpure, tpure, sspure, kset, tset, ksnoc, tsnoc, Kind.av, Twist.sl, Twist.tr, Invar.av, stsize, stget, sttl, stapp, stext, tsspure, Model.sl, Model.tr, vset, vsnoc, vpure, Puzz.sl, Puzz.tr, f11, f10, f1, f7, f3, m3, m7, hll, hrs]
      refine ⟨by omega, by omega, by omega, ?_⟩
      rw [hst]; simp [scrW]
    · have hk0' : (0 : Int) < k := by omega
      by_cases c1 : p.mv.length = 1
      · have b1 : decide (1 < (p.mv.length : Int)) = false := by simp; omega
        have hcl0 : cndL p.mv.length (scrW p.mv.length x k) = letL p.mv.length := by simp [cndL, c1]
        rw [hcl0] at hix hcl hst
        rw [hll] at hix hst
        simp -dsimp -implicitDefEqProofs (disch := first | omega | (simp only [lenr]; done) | (simp only [lenr]; omega)) only [↓amPre, amAll, ↓reduceIte, reduceCtorEq, Nat.reduceEqDiff, Nat.reduceBEq, Nat.reduceAdd, Nat.reduceLeDiff, Nat.reduceSub, Nat.reduceMul, Int.reduceToNat, List.size_toArray, tyF, MM, bu0, ipure, kpure, tpure, sspure, kset, tset, ksnoc, tsnoc, Kind.av, Twist.sl, Twist.tr, Invar.av, stsize, stget, sttl, stapp, stext, tsspure, Model.sl, Model.tr, vset, vsnoc, vpure, Puzz.sl, Puzz.tr, f11, f10, f1, f7, f3, m3, m7]
        refine callP_of (lettersI _ hn.2) ?_
        simp -dsimp -implicitDefEqProofs (disch := first | omega | (simp only [lenr]; done) | (simp only [lenr]; omega)) only [↓amPre, amAll, ↓reduceIte, reduceCtorEq, Nat.reduceEqDiff, Nat.reduceBEq, Nat.reduceAdd, Nat.reduceLeDiff, Nat.reduceSub, Nat.reduceMul, Int.reduceToNat, List.size_toArray, tyF, MM, bu0, ipure, kpure, tpure, sspure, kset, tset, ksnoc, tsnoc, Kind.av, Twist.sl, Twist.tr, Invar.av, stsize, stget, sttl, stapp, stext, tsspure, Model.sl, Model.tr, vset, vsnoc, vpure, Puzz.sl, Puzz.tr, f11, f10, f1, f7, f3, m3, m7, hll, lt_true hk0', b1]
        refine callP_of (iNext _ (by unfold intOk; omega)) ?_
        simp -dsimp -implicitDefEqProofs (disch := first | omega | (simp only [lenr]; done) | (simp only [lenr]; omega)) only [↓amPre, amAll, ↓reduceIte, reduceCtorEq, Nat.reduceEqDiff, Nat.reduceBEq, Nat.reduceAdd, Nat.reduceLeDiff, Nat.reduceSub, Nat.reduceMul, Int.reduceToNat, List.size_toArray, tyF, MM, bu0, ipure, kpure, tpure, sspure, kset, tset, ksnoc, tsnoc, Kind.av, Twist.sl, Twist.tr, Invar.av, stsize, stget, sttl, stapp, stext, tsspure, Model.sl, Model.tr, vset, vsnoc, vpure, Puzz.sl, Puzz.tr, f11, f10, f1, f7, f3, m3, m7, hll, hrs]
        refine split_go 9 (by decide +kernel) ?_
        simp -dsimp -implicitDefEqProofs (disch := first | omega | (simp only [lenr]; done) | (simp only [lenr]; omega)) only [↓amPre, amAll, ↓reduceIte, reduceCtorEq, Nat.reduceEqDiff, Nat.reduceBEq, Nat.reduceAdd, Nat.reduceLeDiff, Nat.reduceSub, Nat.reduceMul, Int.reduceToNat, List.size_toArray, tyF, MM, bu0, ipure, kpure, tpure, sspure, kset, tset, ksnoc, tsnoc, Kind.av, Twist.sl, Twist.tr, Invar.av, stsize, stget, sttl, stapp, stext, tsspure, Model.sl, Model.tr, vset, vsnoc, vpure, Puzz.sl, Puzz.tr, f11, f10, f1, f7, f3, m3, m7, hll, hrs]
        refine callP_of (lenI (letL p.mv.length)) ?_
        generalize hC : letL p.mv.length = C at hix hcl hst hll ⊢
        simp -dsimp -implicitDefEqProofs (disch := first | omega | (simp only [lenr]; done) | (simp only [lenr]; omega)) only [↓amPre, amAll, ↓reduceIte, reduceCtorEq, Nat.reduceEqDiff, Nat.reduceBEq, Nat.reduceAdd, Nat.reduceLeDiff, Nat.reduceSub, Nat.reduceMul, Int.reduceToNat, List.size_toArray, tyF, MM, bu0, ipure, kpure, tpure, sspure, kset, tset, ksnoc, tsnoc, Kind.av, Twist.sl, Twist.tr, Invar.av, stsize, stget, sttl, stapp, stext, tsspure, Model.sl, Model.tr, vset, vsnoc, vpure, Puzz.sl, Puzz.tr, f11, f10, f1, f7, f3, m3, m7, hll, hrs, hl]
        refine ⟨by omega, by omega, by omega, ?_⟩
        rw [hst]
      · have b1 : decide (1 < (p.mv.length : Int)) = true := by simp; omega
        have hwn : scrW p.mv.length x k ≠ [] := by intro e; rw [e] at hl; simp at hl; omega
        have hdf := deleteFunc (letL p.mv.length) (scrW p.mv.length x k) k (by rw [hll]; omega) (by rw [hll]; omega) (by omega) (by omega) (by omega) (scr_bd hn.1 hn.2 h0 h1 k)
        rw [show (scrW p.mv.length x k).getD ((k : Int).toNat - 1) 0 = lastW (scrW p.mv.length x k) by unfold lastW; rw [hl]; simp, show (letL p.mv.length).filter (fun y => !decide (sameI y (lastW (scrW p.mv.length x k)))) = cndL p.mv.length (scrW p.mv.length x k) from (if_pos ⟨hwn, by omega⟩).symm] at hdf
        generalize hC : cndL p.mv.length (scrW p.mv.length x k) = C at hix hcl hst hdf
        simp -dsimp -implicitDefEqProofs (disch := first | omega | (simp only [lenr]; done) | (simp only [lenr]; omega)) only [↓amPre, amAll, ↓reduceIte, reduceCtorEq, Nat.reduceEqDiff, Nat.reduceBEq, Nat.reduceAdd, Nat.reduceLeDiff, Nat.reduceSub, Nat.reduceMul, Int.reduceToNat, List.size_toArray, tyF, MM, bu0, ipure, kpure, tpure, sspure, kset, tset, ksnoc, tsnoc, Kind.av, Twist.sl, Twist.tr, Invar.av, stsize, stget, sttl, stapp, stext, tsspure, Model.sl, Model.tr, vset, vsnoc, vpure, Puzz.sl, Puzz.tr, f11, f10, f1, f7, f3, m3, m7]
        refine callP_of (lettersI _ hn.2) ?_
        simp -dsimp -implicitDefEqProofs (disch := first | omega | (simp only [lenr]; done) | (simp only [lenr]; omega)) only [↓amPre, amAll, ↓reduceIte, reduceCtorEq, Nat.reduceEqDiff, Nat.reduceBEq, Nat.reduceAdd, Nat.reduceLeDiff, Nat.reduceSub, Nat.reduceMul, Int.reduceToNat, List.size_toArray, tyF, MM, bu0, ipure, kpure, tpure, sspure, kset, tset, ksnoc, tsnoc, Kind.av, Twist.sl, Twist.tr, Invar.av, stsize, stget, sttl, stapp, stext, tsspure, Model.sl, Model.tr, vset, vsnoc, vpure, Puzz.sl, Puzz.tr, f11, f10, f1, f7, f3, m3, m7, hll, lt_true hk0', b1, fzL_ints]
        refine callX_of (hdf) ?_
        simp -dsimp -implicitDefEqProofs (disch := first | omega | (simp only [lenr]; done) | (simp only [lenr]; omega)) only [↓amPre, amAll, ↓reduceIte, reduceCtorEq, Nat.reduceEqDiff, Nat.reduceBEq, Nat.reduceAdd, Nat.reduceLeDiff, Nat.reduceSub, Nat.reduceMul, Int.reduceToNat, List.size_toArray, tyF, MM, bu0, ipure, kpure, tpure, sspure, kset, tset, ksnoc, tsnoc, Kind.av, Twist.sl, Twist.tr, Invar.av, stsize, stget, sttl, stapp, stext, tsspure, Model.sl, Model.tr, vset, vsnoc, vpure, Puzz.sl, Puzz.tr, f11, f10, f1, f7, f3, m3, m7, hll]
        refine callP_of (iNext _ (by unfold intOk; omega)) ?_
        simp -dsimp -implicitDefEqProofs (disch := first | omega | (simp only [lenr]; done) | (simp only [lenr]; omega)) only [↓amPre, amAll, ↓reduceIte, reduceCtorEq, Nat.reduceEqDiff, Nat.reduceBEq, Nat.reduceAdd, Nat.reduceLeDiff, Nat.reduceSub, Nat.reduceMul, Int.reduceToNat, List.size_toArray, tyF, MM, bu0, ipure, kpure, tpure, sspure, kset, tset, ksnoc, tsnoc, Kind.av, Twist.sl, Twist.tr, Invar.av, stsize, stget, sttl, stapp, stext, tsspure, Model.sl, Model.tr, vset, vsnoc, vpure, Puzz.sl, Puzz.tr, f11, f10, f1, f7, f3, m3, m7, hll, hrs]
        refine split_go 9 (by decide +kernel) ?_
        simp -dsimp -implicitDefEqProofs (disch := first | omega | (simp only [lenr]; done) | (simp only [lenr]; omega)) only [↓amPre, amAll, ↓reduceIte, reduceCtorEq, Nat.reduceEqDiff, Nat.reduceBEq, Nat.reduceAdd, Nat.reduceLeDiff, Nat.reduceSub, Nat.reduceMul, Int.reduceToNat, List.size_toArray, tyF, MM, bu0, ipure, kpure, tpure, sspure, kset, tset, ksnoc, tsnoc, Kind.av, Twist.sl, Twist.tr, Invar.av, stsize, stget, sttl, stapp, stext, tsspure, Model.sl, Model.tr, vset, vsnoc, vpure, Puzz.sl, Puzz.tr, f11, f10, f1, f7, f3, m3, m7, hll, hrs]
        refine callP_of (lenI C) ?_
        simp -dsimp -implicitDefEqProofs (disch := first | omega | (simp only [lenr]; done) | (simp only [lenr]; omega)) only [↓amPre, amAll, ↓reduceIte, reduceCtorEq, Nat.reduceEqDiff, Nat.reduceBEq, Nat.reduceAdd, Nat.reduceLeDiff, Nat.reduceSub, Nat.reduceMul, Int.reduceToNat, List.size_toArray, tyF, MM, bu0, ipure, kpure, tpure, sspure, kset, tset, ksnoc, tsnoc, Kind.av, Twist.sl, Twist.tr, Invar.av, stsize, stget, sttl, stapp, stext, tsspure, Model.sl, Model.tr, vset, vsnoc, vpure, Puzz.sl, Puzz.tr, f11, f10, f1, f7, f3, m3, m7, hll, hrs, hl]
        refine ⟨by omega, by omega, by omega, ?_⟩
        rw [hst]
  · have hk : k = c := by omega
    subst hk
    rcases ek with ⟨rfl, m7⟩ | ⟨hk0, m7⟩
    · simp -dsimp -implicitDefEqProofs (disch := first | omega | (simp only [lenr]; done) | (simp only [lenr]; omega)) only [↓amPre, amAll, ↓reduceIte, reduceCtorEq, Nat.reduceEqDiff, Nat.reduceBEq, Nat.reduceAdd, Nat.reduceLeDiff, Nat.reduceSub, Nat.reduceMul, Int.reduceToNat, List.size_toArray, tyF, MM, bu0, ipure, kpure, tpure, sspure, kset, tset, ksnoc, tsnoc, Kind.av, Twist.sl, Twist.tr, Invar.av, stsize, stget, sttl, stapp, stext, tsspure, Model.sl, Model.tr, vset, vsnoc, vpure, Puzz.sl, Puzz.tr, f11, f10, f1, f7, f3, m3, m7]
      simp [scrW]
    · simp -dsimp -implicitDefEqProofs (disch := first | omega | (simp only [lenr]; done) | (simp only [lenr]; omega)) only [↓amPre, amAll, ↓reduceIte, reduceCtorEq, Nat.reduceEqDiff, Nat.reduceBEq, Nat.reduceAdd, Nat.reduceLeDiff, Nat.reduceSub, Nat.reduceMul, Int.reduceToNat, List.size_toArray, tyF, MM, bu0, ipure, kpure, tpure, sspure, kset, tset, ksnoc, tsnoc, Kind.av, Twist.sl, Twist.tr, Invar.av, stsize, stget, sttl, stapp, stext, tsspure, Model.sl, Model.tr, vset, vsnoc, vpure, Puzz.sl, Puzz.tr, f11, f10, f1, f7, f3, m3, m7]
end Go.AM
set_option maxRecDepth 8000
namespace Go.AM
namespace Draws
open Go.Proofs
def MM : FuncId → List Bool := fun f => if f = 229 then [true] else if f = 184 then [true, false] else if f = 163 then [true, false] else if f = 185 then [true, false, false] else if f = 186 then [true, false] else if f = 230 then [true] else if f = 228 then [true] else if f = 221 then [true, false] else if f = 162 then [true, true] else []
structure Src where
  b : List UInt8
  k : Nat
  s : Int
abbrev bsl (l : List UInt8) : AV := .sl 1 (l.map fun x => .u8 x.toNat)
abbrev Src.pt (s : Src) : AV := .pt 3 (.agg [bsl s.b, .i64 s.k, .i64 s.s])
abbrev Src.ok (s : Src) : Prop := s.b.length ≤ 4096 ∧ s.k ≤ s.b.length ∧ intOk s.s
instance : Thing UInt8 := ⟨⟩
def nxS (s : Int) : Int := IntKind.i64.wrap (IntKind.i64.wrap (s * 6364136223846793005) + 1442695040888963407)
def nxX (s : Int) : Int := bitsI .and .i64 (bitsI .xor .i64 (s.fdiv (2 ^ (min 33 64))) (s.fdiv (2 ^ (min 45 64)))) 255
theorem and255 (a : Int) : 0 ≤ bitsI .and .i64 a 255 ∧ bitsI .and .i64 a 255 ≤ 255 := by
  have h : (BitVec.ofInt 64 a &&& BitVec.ofInt 64 255).toNat ≤ 255 := by
    rw [BitVec.toNat_and]
    exact Nat.le_trans Nat.and_le_right (by decide)
  have e : bitsI .and .i64 a 255 = ((BitVec.ofInt 64 a &&& BitVec.ofInt 64 255).toNat : Int) := by
    show IntKind.i64.wrap ((BitVec.ofInt 64 a &&& BitVec.ofInt 64 255).toNat : Int) = _
    apply wrap64_id; omega
  rw [e]; omega
theorem wrap_ok (x : Int) : intOk (IntKind.i64.wrap x) := by
  unfold intOk IntKind.wrap
  simp only [IntKind.signed, IntKind.bits, Bool.true_and, decide_eq_true_eq, ge_iff_le, Nat.reduceSub, Int.reducePow, Nat.reducePow]
  constructor <;> split <;> omega
theorem nextByte (s : Src) (h : s.ok) : ∃ (s' : Src) (x : Int), SpecX Try.prog 229 [s.pt] [some s'.pt] (.i64 x) ∧ s'.ok ∧ 0 ≤ x ∧ x ≤ 255 := by
  have h1 := h.1
  have h2 := h.2.1
  have h3 := h.2.2
  have hb : IntKind.i64.bits = 64 := rfl
  have hw : intOk (nxS s.s) := wrap_ok _
  have ha := and255 (bitsI .xor .i64 ((nxS s.s).fdiv (2 ^ (min 33 64))) ((nxS s.s).fdiv (2 ^ (min 45 64))))
  have hn : nxS s.s = IntKind.i64.wrap (IntKind.i64.wrap (s.s * 6364136223846793005) + 1442695040888963407) := rfl
  by_cases hk : s.k < s.b.length
  case neg =>
    refine ⟨⟨s.b, s.k, nxS s.s⟩, nxX (nxS s.s), ?_, ⟨h1, h2, hw⟩, ha⟩
    unfold intOk at h3
    have hkl : s.k = s.b.length := by omega
    refine spec_of_awp (M := MM) (np := 1) (fz := false) mixed Try.func229 rfl rfl (by decide) rfl (Nat.le_refl _) (by decide +kernel) (.inl rfl) (by simp only [sigsOk_some, sigsOk_nil, and_true]; rfl) ?_
    simp -dsimp -implicitDefEqProofs (disch := first | omega | (simp only [lenr]; done) | (simp only [lenr]; omega)) only [↓amPre, amAll, ↓reduceIte, reduceCtorEq, Nat.reduceEqDiff, Nat.reduceBEq, Nat.reduceAdd, Nat.reduceLeDiff, Nat.reduceSub, Nat.reduceMul, Int.reduceToNat, List.size_toArray, tyF, MM, bu0, hb, hkl]
    exact ⟨rfl, rfl⟩
  have hu : (s.b.getD s.k default).toNat < 256 := (s.b.getD s.k default).toNat_lt
  have hv := and255 (nxX (nxS s.s) + ((s.b.getD s.k default).toNat : Int))
  have hx : 0 ≤ nxX (nxS s.s) ∧ nxX (nxS s.s) ≤ 255 := ha
  refine ⟨⟨s.b, s.k + 1, nxS s.s⟩, bitsI .and .i64 (nxX (nxS s.s) + ((s.b.getD s.k default).toNat : Int)) 255, ?_, ⟨h1, hk, hw⟩, hv⟩
  unfold intOk at h3
  have hX : bitsI .and .i64 (bitsI .xor .i64 ((nxS s.s).fdiv (2 ^ (min 33 64))) ((nxS s.s).fdiv (2 ^ (min 45 64)))) 255 = nxX (nxS s.s) := rfl
  have e1 : IntKind.i64.wrap ((s.b.getD s.k default).toNat : Int) = (s.b.getD s.k default).toNat := wrap64_id (by omega)
  have e2 : IntKind.i64.wrap (nxX (nxS s.s) + ((s.b.getD s.k default).toNat : Int)) = nxX (nxS s.s) + ((s.b.getD s.k default).toNat : Int) := wrap64_id (by omega)
  refine spec_of_awp (M := MM) (np := 1) (fz := false) mixed Try.func229 rfl rfl (by decide) rfl (Nat.le_refl _) (by decide +kernel) (.inl rfl) (by simp only [sigsOk_some, sigsOk_nil, and_true]; rfl) ?_
  simp -dsimp -implicitDefEqProofs (disch := first | omega | (simp only [lenr]; done) | (simp only [lenr]; omega)) only [↓amPre, amAll, ↓reduceIte, reduceCtorEq, Nat.reduceEqDiff, Nat.reduceBEq, Nat.reduceAdd, Nat.reduceLeDiff, Nat.reduceSub, Nat.reduceMul, Int.reduceToNat, List.size_toArray, tyF, MM, bu0, hb, ← hn, hX, e1, e2]
theorem below (s : Src) (n : Int) (h : s.ok) (hn : intOk n) : ∃ (s' : Src) (x : Int), SpecX Try.prog 184 [s.pt, .i64 n] [some s'.pt] (.i64 x) ∧ s'.ok ∧ 0 ≤ x ∧ (0 < n → x < n) ∧ (n ≤ 0 → x = 0) := by
  unfold intOk at hn
  by_cases n0 : n ≤ 0
  · refine ⟨s, 0, ?_, h, by omega, by omega, fun _ => rfl⟩
    refine spec_of_awp (M := MM) (np := 2) (fz := false) mixed Try.func184 rfl rfl (by decide) rfl (Nat.le_refl _) (by decide +kernel) (.inl rfl) (by simp only [sigsOk_some, sigsOk_nil, and_true]) ?_
    simp -dsimp -implicitDefEqProofs (disch := first | omega | (simp only [lenr]; done) | (simp only [lenr]; omega)) only [↓amPre, amAll, ↓reduceIte, reduceCtorEq, Nat.reduceEqDiff, Nat.reduceBEq, Nat.reduceAdd, Nat.reduceLeDiff, Nat.reduceSub, Nat.reduceMul, Int.reduceToNat, List.size_toArray, tyF, MM, bu0, lt_false n0]
  obtain ⟨s1, x1, q1, k1, b1⟩ := nextByte s h
  by_cases n1 : n ≤ 256
  · refine ⟨s1, x1.tmod n, ?_, k1, Int.tmod_nonneg _ b1.1, fun q => Int.tmod_lt_of_pos _ q, fun q => by omega⟩
    have hne : n ≠ 0 := by omega
    refine spec_of_awp (M := MM) (np := 2) (fz := false) mixed Try.func184 rfl rfl (by decide) rfl (Nat.le_refl _) (by decide +kernel) (.inl rfl) (by simp only [sigsOk_some, sigsOk_nil, and_true]; rfl) ?_
    simp -dsimp -implicitDefEqProofs (disch := first | omega | (simp only [lenr]; done) | (simp only [lenr]; omega)) only [↓amPre, amAll, ↓reduceIte, reduceCtorEq, Nat.reduceEqDiff, Nat.reduceBEq, Nat.reduceAdd, Nat.reduceLeDiff, Nat.reduceSub, Nat.reduceMul, Int.reduceToNat, List.size_toArray, tyF, MM, bu0, lt_true (Int.not_le.1 n0), lt_false n1]
    refine callX_of (q1) ?_
    simp -dsimp -implicitDefEqProofs (disch := first | omega | (simp only [lenr]; done) | (simp only [lenr]; omega)) only [↓amPre, amAll, ↓reduceIte, reduceCtorEq, Nat.reduceEqDiff, Nat.reduceBEq, Nat.reduceAdd, Nat.reduceLeDiff, Nat.reduceSub, Nat.reduceMul, Int.reduceToNat, List.size_toArray, tyF, MM, bu0, hne]
  obtain ⟨s2, x2, q2, k2, b2⟩ := nextByte s1 k1
  obtain ⟨s3, x3, q3, k3, b3⟩ := nextByte s2 k2
  obtain ⟨s4, x4, q4, k4, b4⟩ := nextByte s3 k3
  refine ⟨s4, (x1 * 16777216 + x2 * 65536 + x3 * 256 + x4).tmod n, ?_, k4, Int.tmod_nonneg _ (by omega), fun q => Int.tmod_lt_of_pos _ q, fun q => by omega⟩
  have hne : n ≠ 0 := by omega
  have e1 : IntKind.i64.wrap (x1 * 16777216) = x1 * 16777216 := wrap64_id (by omega)
  have e2 : IntKind.i64.wrap (x2 * 65536) = x2 * 65536 := wrap64_id (by omega)
  have e3 : IntKind.i64.wrap (x3 * 256) = x3 * 256 := wrap64_id (by omega)
  have e4 : IntKind.i64.wrap (x1 * 16777216 + x2 * 65536) = x1 * 16777216 + x2 * 65536 := wrap64_id (by omega)
  have e5 : IntKind.i64.wrap (x1 * 16777216 + x2 * 65536 + x3 * 256) = x1 * 16777216 + x2 * 65536 + x3 * 256 := wrap64_id (by omega)
  have e6 : IntKind.i64.wrap (x1 * 16777216 + x2 * 65536 + x3 * 256 + x4) = x1 * 16777216 + x2 * 65536 + x3 * 256 + x4 := wrap64_id (by omega)
  refine spec_of_awp (M := MM) (np := 2) (fz := false) mixed Try.func184 rfl rfl (by decide) rfl (Nat.le_refl _) (by decide +kernel) (.inl rfl) (by simp only [sigsOk_some, sigsOk_nil, and_true]; rfl) ?_
  simp -dsimp -implicitDefEqProofs (disch := first | omega | (simp only [lenr]; done) | (simp only [lenr]; omega)) only [↓amPre, amAll, ↓reduceIte, reduceCtorEq, Nat.reduceEqDiff, Nat.reduceBEq, Nat.reduceAdd, Nat.reduceLeDiff, Nat.reduceSub, Nat.reduceMul, Int.reduceToNat, List.size_toArray, tyF, MM, bu0, lt_true (Int.not_le.1 n0), lt_true (Int.not_le.1 n1)]
  refine callX_of (q1) ?_
  simp -dsimp -implicitDefEqProofs (disch := first | omega | (simp only [lenr]; done) | (simp only [lenr]; omega)) only [↓amPre, amAll, ↓reduceIte, reduceCtorEq, Nat.reduceEqDiff, Nat.reduceBEq, Nat.reduceAdd, Nat.reduceLeDiff, Nat.reduceSub, Nat.reduceMul, Int.reduceToNat, List.size_toArray, tyF, MM, bu0]
  refine callX_of (q2) ?_
  simp -dsimp -implicitDefEqProofs (disch := first | omega | (simp only [lenr]; done) | (simp only [lenr]; omega)) only [↓amPre, amAll, ↓reduceIte, reduceCtorEq, Nat.reduceEqDiff, Nat.reduceBEq, Nat.reduceAdd, Nat.reduceLeDiff, Nat.reduceSub, Nat.reduceMul, Int.reduceToNat, List.size_toArray, tyF, MM, bu0]
  refine callX_of (q3) ?_
  simp -dsimp -implicitDefEqProofs (disch := first | omega | (simp only [lenr]; done) | (simp only [lenr]; omega)) only [↓amPre, amAll, ↓reduceIte, reduceCtorEq, Nat.reduceEqDiff, Nat.reduceBEq, Nat.reduceAdd, Nat.reduceLeDiff, Nat.reduceSub, Nat.reduceMul, Int.reduceToNat, List.size_toArray, tyF, MM, bu0]
  refine callX_of (q4) ?_
  simp -dsimp -implicitDefEqProofs (disch := first | omega | (simp only [lenr]; done) | (simp only [lenr]; omega)) only [↓amPre, amAll, ↓reduceIte, reduceCtorEq, Nat.reduceEqDiff, Nat.reduceBEq, Nat.reduceAdd, Nat.reduceLeDiff, Nat.reduceSub, Nat.reduceMul, Int.reduceToNat, List.size_toArray, tyF, MM, bu0, hne, e1, e2, e3, e4, e5, e6]
end Draws
end Go.AM
set_option maxRecDepth 8000
namespace Go.AM
namespace Draws
open Go.Proofs
def sdK (l : List UInt8) : Nat → Int
  | 0 => 590033 + l.length
  | k + 1 => bitsI .and .i64 (sdK l k * 337 + (l.getD k default).toNat + 11) 1073741823
end Draws
end Go.AM
set_option maxRecDepth 8000
namespace Go.AM
namespace Draws
open Go.Proofs
noncomputable def bS (s : Src) (n : Int) : Src := open Classical in if h : s.ok ∧ intOk n then (below s n h.1 h.2).choose else s
noncomputable def bX (s : Src) (n : Int) : Int := open Classical in if h : s.ok ∧ intOk n then (below s n h.1 h.2).choose_spec.choose else 0
noncomputable def ordK (s : Src) : Nat → Src × List Int
  | 0 => (s, [])
  | k + 1 => (bS (ordK s k).1 (k + 1), (ordK s k).2.take (bX (ordK s k).1 (k + 1)).toNat ++ [(k : Int)] ++ (ordK s k).2.drop (bX (ordK s k).1 (k + 1)).toNat)
end Draws
end Go.AM
namespace Go.AM
/-! a permutation of the facelets as a piece state -/
def pAt (p : List Int) (b o i : Nat) : Int := p.getD (b + i * o) 0 - b
def ctL (p : List Int) (b o n : Nat) : List Int := (List.range n).map fun i => (pAt p b o i).tdiv o
def cbL (p : List Int) (b o n : Nat) : List Int := (List.range n).map fun i => (pAt p b o i).tmod o
def candT (ks : List Kind) (p : List Int) (k : Nat) : Twist :=
  ⟨ctL p (facets (ks.take k)).toNat (ks.getD k default).o.toNat (ks.getD k default).c.toNat, cbL p (facets (ks.take k)).toNat (ks.getD k default).o.toNat (ks.getD k default).c.toNat⟩
def candL (ks : List Kind) (p : List Int) (n : Nat) : List Twist := (List.range n).map (candT ks p)
def ptpOk (ks : List Kind) (p : List Int) : Prop := kindsOk ks ∧ (p.length : Int) = facets ks ∧ psOk ks (candL ks p ks.length) ∧ permOf ks (candL ks p ks.length) = p
instance (ks : List Kind) (p : List Int) : Decidable (ptpOk ks p) := by unfold ptpOk; infer_instance
def ptpR (ks : List Kind) (p : List Int) : List Twist := if ptpOk ks p then candL ks p ks.length else []
end Go.AM
set_option maxRecDepth 8000
namespace Go.AM
open Go.Proofs
def cpL (a b : List Int) (k : Nat) : List Int := (List.range k).map fun i => b.getD (a.getD i 0).toNat 0
def cpR (a b : List Int) : AV := if isPerm a ∧ isPerm b ∧ a.length = b.length then .tup [itr (cpL a b a.length), .bl true] else .tup [.tr 1 [], .bl false]
def ivL (p : List Int) : Nat → List Int
  | 0 => List.replicate p.length 0
  | k + 1 => (ivL p k).set (p.getD k 0).toNat (k : Int)
end Go.AM
namespace Go.AM
/-! the permutation of a composite, and of an inverse, of piece states -/
def bas (ks : List Kind) (n : Nat) : Nat := (facets (ks.take n)).toNat
end Go.AM
namespace Go.AM
/-! the effect of a word; the points that it moves -/
def letP (mv : List (List Int)) (x : Int) : List Int := if 0 < x then mv.getD (x - 1).toNat default else invI (mv.getD (-x - 1).toNat default)
def effK (n : Int) (mv : List (List Int)) (w : List Int) : Nat → List Int
  | 0 => runI 0 n.toNat
  | k + 1 => compI (effK n mv w k) (letP mv (w.getD k 0))
def movL (p : List Int) (k : Nat) : List Int := ((List.range k).filter fun i => p.getD i 0 != (i : Int)).map fun (i : Nat) => (i : Int)
def imgL (p : List Int) (k : Nat) : List Int := ((List.range k).filter fun i => p.getD i 0 != (i : Int)).map fun i => p.getD i 0
end Go.AM
namespace Go.Proofs
open Go.Shelf
def Try.sortL_ren : Go.Shelf.Ren := ⟨fun | 5 => 213 | 8 => 252 | 7 => 251 | 19 => 272 | 20 => 273 | 10 => 263 | 11 => 264 | 12 => 265 | 13 => 266 | 14 => 267 | 15 => 268 | 16 => 269 | 17 => 270 | 18 => 271 | 30 => 277 | 31 => 278 | 32 => 279 | 33 => 280 | 34 => 281 | 35 => 282 | 40 => 283 | n => n, fun | 23 => 52 | 25 => 2 | 3 => 3 | 32 => 111 | 22 => 52 | 0 => 0 | 44 => 243 | 46 => 34 | 4 => 4 | 36 => 236 | 35 => 235 | 41 => 240 | 5 => 5 | 9 => 9 | 53 => 247 | 57 => 251 | 63 => 253 | 64 => 254 | n => n, fun | n => n⟩
end Go.Proofs
set_option maxRecDepth 8000
namespace Go.AM
open Go.Proofs
def supR (p : Puzz) (w : List Int) : List Int := if puzzOk p ∧ wordOk p.mv.length w then movL (effK p.n p.mv w w.length) p.n.toNat else []
theorem markInt64SS (l : List (List Int)) (k : Int) (h0 : 0 ≤ k) (h1 : k + cnts l ≤ 1099511627776) (hl : smallSS l) : SpecX Try.prog 116 [sst l, .i64 k] [some (sst (mks k l))] (.i64 (k + cnts l)) := by
  have hl0 := hl.1
  refine spec_of_awp (M := MM) (np := 2) (fz := false) mixed Try.func116 rfl rfl (by decide) rfl (Nat.le_refl _) (by decide +kernel) (.inl rfl) (by simp only [sigsOk_some, sigsOk_nil, sig_tr, List.length_map, mks_len, and_self]) ?_
  simp -dsimp -implicitDefEqProofs (disch := first | omega | (simp only [lenr]; done) | (simp only [lenr]; omega)) only [↓amPre, amAll, ↓reduceIte, reduceCtorEq, Nat.reduceEqDiff, Nat.reduceBEq, Nat.reduceAdd, Nat.reduceLeDiff, Nat.reduceSub, Nat.reduceMul, Int.reduceToNat, List.size_toArray, tyF, MM, bu0, ipure, kpure, tpure, sspure, kset, tset, ksnoc, tsnoc, Kind.av, Twist.sl, Twist.tr, Invar.av, stsize, stget, sttl, stapp, stext, tsspure, Model.sl, Model.tr, vset, vsnoc, vpure, Puzz.sl, Puzz.tr]
  have hr := mks_len k l
  refine awp_loop (fun j st => j ≤ l.length ∧ st.fr 5 = .i64 j ∧ st.fr 1 = .i64 (k + cnts (l.take j)) ∧ st.fr 0 = .ref 0 [] 1 0 l.length ∧ st.mem 0 = some (sst (mixL (mks k l) l j))) (l.length) ?_ ?_
  · simp -dsimp -implicitDefEqProofs (disch := first | omega | (simp only [lenr]; done) | (simp only [lenr]; omega)) only [↓amPre, amAll, ↓reduceIte, reduceCtorEq, Nat.reduceEqDiff, Nat.reduceBEq, Nat.reduceAdd, Nat.reduceLeDiff, Nat.reduceSub, Nat.reduceMul, Int.reduceToNat, List.size_toArray, tyF, MM, bu0, ipure, kpure, tpure, sspure, kset, tset, ksnoc, tsnoc, Kind.av, Twist.sl, Twist.tr, Invar.av, stsize, stget, sttl, stapp, stext, tsspure, Model.sl, Model.tr, vset, vsnoc, vpure, Puzz.sl, Puzz.tr, mixL_zero]
    simp [cnts]
  rintro j st _ ⟨hj, f5, f1, f0, m0⟩
  have hml := mixL_len (mks k l) l j hr
  by_cases hlt : j < l.length
  · have hs := mixL_set (mks k l) l j default hr hlt
    have hg := mixL_get (mks k l) l j default hr hlt
    rw [mks_get _ _ _ hlt, mk_ints] at hs
    have ct := cnts_take l j hlt
    have cl := cnts_le1 l j hlt
    rw [cnt_ints] at ct cl
    simp -dsimp -implicitDefEqProofs (disch := first | omega | (simp only [lenr]; done) | (simp only [lenr]; omega)) only [↓amPre, amAll, ↓reduceIte, reduceCtorEq, Nat.reduceEqDiff, Nat.reduceBEq, Nat.reduceAdd, Nat.reduceLeDiff, Nat.reduceSub, Nat.reduceMul, Int.reduceToNat, List.size_toArray, tyF, MM, bu0, ipure, kpure, tpure, sspure, kset, tset, ksnoc, tsnoc, Kind.av, Twist.sl, Twist.tr, Invar.av, stsize, stget, sttl, stapp, stext, tsspure, Model.sl, Model.tr, vset, vsnoc, vpure, Puzz.sl, Puzz.tr, f5, f1, f0, m0, hml, hg]
    refine callX_of (markInt64S (l.getD j default) _ (by omega) (by omega) (by omega)) ?_
    simp -dsimp -implicitDefEqProofs (disch := first | omega | (simp only [lenr]; done) | (simp only [lenr]; omega)) only [↓amPre, amAll, ↓reduceIte, reduceCtorEq, Nat.reduceEqDiff, Nat.reduceBEq, Nat.reduceAdd, Nat.reduceLeDiff, Nat.reduceSub, Nat.reduceMul, Int.reduceToNat, List.size_toArray, tyF, MM, bu0, ipure, kpure, tpure, sspure, kset, tset, ksnoc, tsnoc, Kind.av, Twist.sl, Twist.tr, Invar.av, stsize, stget, sttl, stapp, stext, tsspure, Model.sl, Model.tr, vset, vsnoc, vpure, Puzz.sl, Puzz.tr, f5, f1, f0, m0, hml, hg, hs, runI_len]
    repeat' (first | omega | rfl | exact i64c (by omega) | exact vic (by omega) | apply And.intro)
  · have hj' : j = l.length := by omega
    subst hj'
    have := mixL_all (mks k l) l l.length (by omega) (by omega)
    simp -dsimp -implicitDefEqProofs (disch := first | omega | (simp only [lenr]; done) | (simp only [lenr]; omega)) only [↓amPre, amAll, ↓reduceIte, reduceCtorEq, Nat.reduceEqDiff, Nat.reduceBEq, Nat.reduceAdd, Nat.reduceLeDiff, Nat.reduceSub, Nat.reduceMul, Int.reduceToNat, List.size_toArray, tyF, MM, bu0, ipure, kpure, tpure, sspure, kset, tset, ksnoc, tsnoc, Kind.av, Twist.sl, Twist.tr, Invar.av, stsize, stget, sttl, stapp, stext, tsspure, Model.sl, Model.tr, vset, vsnoc, vpure, Puzz.sl, Puzz.tr, f5, f1, f0, m0, hml, this, List.take_length]
end Go.AM
set_option maxRecDepth 8000
namespace Go.AM
open Go.Proofs
def canScr (p : Puzz) (x c : Int) : Prop := puzzOk p ∧ within x 0 2147483646 = true ∧ within c 0 200 = true
instance (p : Puzz) (x c : Int) : Decidable (canScr p x c) := by unfold canScr; infer_instance
def scrR (p : Puzz) (x c : Int) : List Int := if canScr p x c then scrW p.mv.length x c.toNat else []
end Go.AM
set_option maxRecDepth 8000
namespace Go.AM
open Go.Proofs
def pwL (e : List Int) (k : Nat) : List Int := (List.range e.length).map fun x => ((itN (fOf e) k x : Nat) : Int)
def lcmK (L : List (List Int)) : Nat → Nat
  | 0 => 1
  | j + 1 => Nat.lcm (lcmK L j) (L.getD j default).length
def ordE (e : List Int) : Nat := lcmK (longC (cycI e)) (longC (cycI e)).length
def spK (e : List Int) : Nat → Nat × Nat
  | 0 => (0, 0)
  | j + 1 => if (spK e j).1 = 0 ∨ (movL (pwL e (j + 1)) e.length).length < (spK e j).2 then (j + 1, (movL (pwL e (j + 1)) e.length).length) else spK e j
end Go.AM
set_option maxRecDepth 8000
namespace Go.AM
open Go.Proofs
def treeGcd : OT := (.alt 0 (.alt 1 (.alt 2 (.alt 3 (.alt 4 (.alt 5 .done .stop) .stop) (.alt 4 (.alt 3 (.alt 5 .done .stop) .stop) .stop)) (.alt 4 (.alt 2 (.alt 3 (.alt 5 .done .stop) .stop) .stop) .stop)) (.alt 2 (.alt 1 (.alt 3 (.alt 4 (.alt 5 .done .stop) .stop) (.alt 4 (.alt 3 (.alt 5 .done .stop) .stop) .stop)) .stop) .stop)) (.alt 1 (.alt 0 (.alt 2 (.alt 3 (.alt 4 (.alt 5 .done .stop) .stop) (.alt 4 (.alt 3 (.alt 5 .done .stop) .stop) .stop)) (.alt 4 (.alt 2 (.alt 3 (.alt 5 .done .stop) .stop) .stop) .stop)) (.alt 2 (.alt 0 (.alt 3 (.alt 4 (.alt 5 .done .stop) .stop) (.alt 4 (.alt 3 (.alt 5 .done .stop) .stop) .stop)) (.alt 3 (.alt 0 (.alt 4 (.alt 5 .done .stop) .stop) .stop) .stop)) .stop)) (.alt 2 (.alt 0 (.alt 1 (.alt 3 (.alt 4 (.alt 5 .done .stop) .stop) (.alt 4 (.alt 3 (.alt 5 .done .stop) .stop) .stop)) .stop) (.alt 1 (.alt 0 (.alt 3 (.alt 4 (.alt 5 .done .stop) .stop) (.alt 4 (.alt 3 (.alt 5 .done .stop) .stop) .stop)) (.alt 3 (.alt 0 (.alt 4 (.alt 5 .done .stop) .stop) .stop) .stop)) .stop)) .stop)))
def gcK (a b : Nat) : Nat → Nat × Nat
  | 0 => (a, b)
  | k + 1 => ((gcK a b k).2, (gcK a b k).1 % (gcK a b k).2)
end Go.AM
set_option maxRecDepth 8000
namespace Go.AM
open Go.Proofs
def spR (p : Puzz) (w : List Int) : Nat × Nat := if puzzOk p ∧ wordOk p.mv.length w then spK (effK p.n p.mv w w.length) (ordE (effK p.n p.mv w w.length) - 1) else (0, 0)
abbrev spA (x : Nat × Nat) : AV := .tup [.i64 x.1, .i64 x.2]
end Go.AM
set_option maxRecDepth 8000
namespace Go.AM
open Go.Proofs
def consM (m : Model) (i : Invar) : Prop := modelOk m ∧ ∀ s ∈ m.mv, invV m.ks s i = 0
instance (m : Model) (i : Invar) : Decidable (consM m i) := by unfold consM; infer_instance
def trivK (ks : List Kind) (set : Int) : Nat → Bool
  | 0 => true
  | k + 1 => trivK ks set k && !(bitK set k && decide (1 < (ks.getD k default).c))
def trivI (ks : List Kind) (i : Invar) : Bool := if i.k = 1 then decide ((ks.getD i.s.toNat default).o = 1) else trivK ks i.s ks.length
end Go.AM
set_option maxRecDepth 8000
namespace Go.AM
open Go.Proofs
def keepI (m : Model) (i : Invar) : Bool := !trivI m.ks i && decide (consM m i)
def allI (ks : List Kind) : List Invar := twL ks.length ++ paL (2 ^ ks.length - 1)
def consL (m : Model) : List Invar := (allI m.ks).filter (keepI m)
def consR (m : Model) : List Invar := if modelOk m then consL m else []
end Go.AM
set_option maxRecDepth 8000
namespace Go.AM
open Go.Proofs
def vioO (m : Model) (s : List Twist) : Option Invar := if psOk m.ks s then (consR m).find? (fun i => invV m.ks s i != 0) else none
def vioR (o : Option Invar) : AV := match o with | some i => .tup [i.av, .bl true] | none => .tup [(⟨0, 0⟩ : Invar).av, .bl false]
end Go.AM
set_option maxRecDepth 8000
namespace Go.AM
open Go.Proofs
def pwK (p : List Int) (k i : Nat) : List Int := (List.range i).map fun x => ((itN (fOf p) k x : Nat) : Int)
end Go.AM
set_option maxRecDepth 8000
namespace Go.AM
open Go.Proofs
def scrS (p : Puzz) (x c : Int) : List Int := if canScr p x c then effK p.n p.mv (scrR p x c) (scrR p x c).length else []
end Go.AM
namespace Go.AM
/-! keys of states: their bytes -/
def skey (s : List Int) : ByteArray := pushB s
def smallE (s : List Int) : Prop := ∀ x ∈ s, 0 ≤ x ∧ x < 256
open Classical in
noncomputable def seenM (S : List (List Int)) : Value → Option Value := fun v => if ∃ s ∈ S, v = .string (skey s) then some (.bool true) else none
def ixK (L : List (List Int)) (s : List Int) : Int := if s ∈ L then (L.idxOf s : Nat) else -1
end Go.AM
set_option maxRecDepth 8000
namespace Go.AM
open Go.Proofs
theorem keyB_str (s : ByteArray) : keyB true (.string s) = true := rfl
theorem keyB_int (n : Int) : keyB false (.int .i64 n) = true := rfl
theorem heldInt64SS (l : List (List Int)) (k : Int) (h0 : 0 ≤ k) (h1 : k + cnts l ≤ 1099511627776) (hl : smallSS l) : SpecAt Try.prog 117 [ssl (mks k l), .i64 k] (.i64 (k + cnts l)) := by
  have hl0 := hl.1
  refine spec_of_awp (M := MM) (np := 2) (fz := true) mixed Try.func117 rfl rfl (by decide) rfl (Nat.le_refl _) (by decide +kernel) (.inr ⟨rfl, rfl⟩) trivial ?_
  simp -dsimp -implicitDefEqProofs (disch := first | omega | (simp only [lenr]; done) | (simp only [lenr]; omega)) only [↓amPre, amAll, ↓reduceIte, reduceCtorEq, Nat.reduceEqDiff, Nat.reduceBEq, Nat.reduceAdd, Nat.reduceLeDiff, Nat.reduceSub, Nat.reduceMul, Int.reduceToNat, List.size_toArray, tyF, MM, bu0, ipure, kpure, tpure, sspure, kset, tset, ksnoc, tsnoc, Kind.av, Twist.sl, Twist.tr, Invar.av, stsize, stget, sttl, stapp, stext, tsspure, Model.sl, Model.tr, vset, vsnoc, vpure, Puzz.sl, Puzz.tr, keyB_str, keyB_int]
  have hr := mks_len k l
  refine awp_loop (fun j st => j ≤ l.length ∧ st.fr 5 = .i64 j ∧ st.fr 1 = .i64 (k + cnts (l.take j)) ∧ st.fr 0 = ssl (mks k l)) (l.length) ?_ ?_
  · simp -dsimp -implicitDefEqProofs (disch := first | omega | (simp only [lenr]; done) | (simp only [lenr]; omega)) only [↓amPre, amAll, ↓reduceIte, reduceCtorEq, Nat.reduceEqDiff, Nat.reduceBEq, Nat.reduceAdd, Nat.reduceLeDiff, Nat.reduceSub, Nat.reduceMul, Int.reduceToNat, List.size_toArray, tyF, MM, bu0, ipure, kpure, tpure, sspure, kset, tset, ksnoc, tsnoc, Kind.av, Twist.sl, Twist.tr, Invar.av, stsize, stget, sttl, stapp, stext, tsspure, Model.sl, Model.tr, vset, vsnoc, vpure, Puzz.sl, Puzz.tr, keyB_str, keyB_int]
    simp [cnts]
  rintro j st _ ⟨hj, f5, f1, f0⟩
  by_cases hlt : j < l.length
  · have hg := mks_get k l j hlt
    rw [mk_ints] at hg
    have ct := cnts_take l j hlt
    have cl := cnts_le1 l j hlt
    rw [cnt_ints] at ct cl
    simp -dsimp -implicitDefEqProofs (disch := first | omega | (simp only [lenr]; done) | (simp only [lenr]; omega)) only [↓amPre, amAll, ↓reduceIte, reduceCtorEq, Nat.reduceEqDiff, Nat.reduceBEq, Nat.reduceAdd, Nat.reduceLeDiff, Nat.reduceSub, Nat.reduceMul, Int.reduceToNat, List.size_toArray, tyF, MM, bu0, ipure, kpure, tpure, sspure, kset, tset, ksnoc, tsnoc, Kind.av, Twist.sl, Twist.tr, Invar.av, stsize, stget, sttl, stapp, stext, tsspure, Model.sl, Model.tr, vset, vsnoc, vpure, Puzz.sl, Puzz.tr, keyB_str, keyB_int, f5, f1, f0, hr, hg]
    refine callP_of (heldInt64S (k + cnts (l.take j)) (l.getD j default).length (by omega) (by omega) (by omega)) ?_
    simp -dsimp -implicitDefEqProofs (disch := first | omega | (simp only [lenr]; done) | (simp only [lenr]; omega)) only [↓amPre, amAll, ↓reduceIte, reduceCtorEq, Nat.reduceEqDiff, Nat.reduceBEq, Nat.reduceAdd, Nat.reduceLeDiff, Nat.reduceSub, Nat.reduceMul, Int.reduceToNat, List.size_toArray, tyF, MM, bu0, ipure, kpure, tpure, sspure, kset, tset, ksnoc, tsnoc, Kind.av, Twist.sl, Twist.tr, Invar.av, stsize, stget, sttl, stapp, stext, tsspure, Model.sl, Model.tr, vset, vsnoc, vpure, Puzz.sl, Puzz.tr, keyB_str, keyB_int, f5, f1, f0, hr, hg]
    repeat' (first | omega | rfl | exact i64c (by omega) | exact vic (by omega) | apply And.intro)
  · have hj' : j = l.length := by omega
    subst hj'
    simp -dsimp -implicitDefEqProofs (disch := first | omega | (simp only [lenr]; done) | (simp only [lenr]; omega)) only [↓amPre, amAll, ↓reduceIte, reduceCtorEq, Nat.reduceEqDiff, Nat.reduceBEq, Nat.reduceAdd, Nat.reduceLeDiff, Nat.reduceSub, Nat.reduceMul, Int.reduceToNat, List.size_toArray, tyF, MM, bu0, ipure, kpure, tpure, sspure, kset, tset, ksnoc, tsnoc, Kind.av, Twist.sl, Twist.tr, Invar.av, stsize, stget, sttl, stapp, stext, tsspure, Model.sl, Model.tr, vset, vsnoc, vpure, Puzz.sl, Puzz.tr, keyB_str, keyB_int, f5, f1, f0, hr, List.take_length]
end Go.AM
set_option maxRecDepth 8000
namespace Go.AM
open Go.Proofs
def MF : FuncId → List Bool := fun f => if f = 4294967295 then [true] else MM f
theorem markPuzzleX (p : Puzz) (k : Int) (h0 : 0 ≤ k) (h1 : k + cnts p.mv ≤ 1099511627776) (h : smallP p) : SpecX Try.prog 40 [p.tr, .i64 k] [some (Puzz.tr ⟨p.n, p.nm, mks k p.mv⟩)] (.i64 (k + cnts p.mv)) := by
  refine spec_of_awp (M := MF) (np := 2) (fz := false) mixed Try.func40 rfl rfl (by decide) rfl (Nat.le_refl _) (by decide +kernel) (.inl rfl) (by simp only [sigsOk_some, sigsOk_nil, and_true, Puzz.tr, sig_agg, List.map_cons, List.map_nil, sig1_v, sig1_tr, List.length_map, mks_len]) ?_
  simp -dsimp -implicitDefEqProofs (disch := first | omega | (simp only [lenr]; done) | (simp only [lenr]; omega)) only [↓amPre, amAll, ↓reduceIte, reduceCtorEq, Nat.reduceEqDiff, Nat.reduceBEq, Nat.reduceAdd, Nat.reduceLeDiff, Nat.reduceSub, Nat.reduceMul, Int.reduceToNat, List.size_toArray, tyF, MM, bu0, ipure, kpure, tpure, sspure, kset, tset, ksnoc, tsnoc, Kind.av, Twist.sl, Twist.tr, Invar.av, stsize, stget, sttl, stapp, stext, tsspure, Model.sl, Model.tr, vset, vsnoc, vpure, Puzz.sl, Puzz.tr, keyB_str, keyB_int, MF]
  refine callX_of (markInt64SS p.mv _ h0 h1 h.2.2) ?_
  simp -dsimp -implicitDefEqProofs (disch := first | omega | (simp only [lenr]; done) | (simp only [lenr]; omega)) only [↓amPre, amAll, ↓reduceIte, reduceCtorEq, Nat.reduceEqDiff, Nat.reduceBEq, Nat.reduceAdd, Nat.reduceLeDiff, Nat.reduceSub, Nat.reduceMul, Int.reduceToNat, List.size_toArray, tyF, MM, bu0, ipure, kpure, tpure, sspure, kset, tset, ksnoc, tsnoc, Kind.av, Twist.sl, Twist.tr, Invar.av, stsize, stget, sttl, stapp, stext, tsspure, Model.sl, Model.tr, vset, vsnoc, vpure, Puzz.sl, Puzz.tr, keyB_str, keyB_int, MF, mks_len]
theorem heldPuzzle (p : Puzz) (k : Int) (h0 : 0 ≤ k) (h1 : k + cnts p.mv ≤ 1099511627776) (h : smallP p) : SpecAt Try.prog 41 [Puzz.sl ⟨p.n, p.nm, mks k p.mv⟩, .i64 k] (.i64 (k + cnts p.mv)) := by
  refine spec_of_awp (M := MM) (np := 2) (fz := true) mixed Try.func41 rfl rfl (by decide) rfl (Nat.le_refl _) (by decide +kernel) (.inr ⟨rfl, rfl⟩) trivial ?_
  simp -dsimp -implicitDefEqProofs (disch := first | omega | (simp only [lenr]; done) | (simp only [lenr]; omega)) only [↓amPre, amAll, ↓reduceIte, reduceCtorEq, Nat.reduceEqDiff, Nat.reduceBEq, Nat.reduceAdd, Nat.reduceLeDiff, Nat.reduceSub, Nat.reduceMul, Int.reduceToNat, List.size_toArray, tyF, MM, bu0, ipure, kpure, tpure, sspure, kset, tset, ksnoc, tsnoc, Kind.av, Twist.sl, Twist.tr, Invar.av, stsize, stget, sttl, stapp, stext, tsspure, Model.sl, Model.tr, vset, vsnoc, vpure, Puzz.sl, Puzz.tr, keyB_str, keyB_int, MF]
  refine callP_of (heldInt64SS p.mv _ h0 h1 h.2.2) ?_
  have hn : ¬ k + cnts p.mv < 0 := by omega
  simp -dsimp -implicitDefEqProofs (disch := first | omega | (simp only [lenr]; done) | (simp only [lenr]; omega)) only [↓amPre, amAll, ↓reduceIte, reduceCtorEq, Nat.reduceEqDiff, Nat.reduceBEq, Nat.reduceAdd, Nat.reduceLeDiff, Nat.reduceSub, Nat.reduceMul, Int.reduceToNat, List.size_toArray, tyF, MM, bu0, ipure, kpure, tpure, sspure, kset, tset, ksnoc, tsnoc, Kind.av, Twist.sl, Twist.tr, Invar.av, stsize, stget, sttl, stapp, stext, tsspure, Model.sl, Model.tr, vset, vsnoc, vpure, Puzz.sl, Puzz.tr, keyB_str, keyB_int, MF, hn]
def cmpP (m : Model) : Puzz := ⟨facets m.ks, m.nm, m.mv.map (permOf m.ks)⟩
def cmpR (m : Model) : Puzz := if modelOk m then cmpP m else ⟨0, [], []⟩
theorem cmpP_small {m : Model} (h : modelOk m) : smallP (cmpP m) := by
  have h1 := facets_bound m.ks h.1.2.1
  have h2 := h.1.1.2
  have h3 := h.2.1.2
  have h4 := h.2.2.1
  refine ⟨by unfold intOk; simp only [cmpP]; omega, by simp only [cmpP]; omega, by simp only [cmpP, List.length_map]; omega, fun s hs => ?_⟩
  obtain ⟨t, ht, rfl⟩ := List.mem_map.1 hs
  have := permOf_le (h.2.2.2 t ht)
  omega
theorem cmpR_small (m : Model) : smallP (cmpR m) := by
  unfold cmpR
  split
  · rename_i h; exact cmpP_small h
  · exact ⟨by unfold intOk; simp, by simp, by simp, fun s hs => by cases hs⟩
theorem cp_take (f : List Twist → List Int) (l : List (List Twist)) (k : Nat) (hk : k < l.length) : (l.take (k + 1)).map f = (l.take k).map f ++ [f (l.getD k default)] := by
  rw [take_succ_eq l k default hk, List.map_append]; rfl
theorem iCompile (m : Model) (h : smallM m) : SpecAt Try.prog 26 [m.sl] (.tup [(cmpR m).tr, .bl (decide (modelOk m))]) := by
  have q0 := iIsValidPieceModel m h
  by_cases c : modelOk m
  case neg =>
    have hR : cmpR m = ⟨0, [], []⟩ := if_neg c
    rw [decide_eq_false c] at q0
    rw [decide_eq_false c, hR]
    refine spec_of_awp (M := MM) (np := 1) (fz := false) mixed Try.func26 rfl rfl (by decide) rfl (Nat.le_refl _) (by decide +kernel) (.inl rfl) (by first | trivial | simp only [sigsOk_nil, sigsOk_some, sigsOk_none, sig_tr, sig_pt, sig_mt, sig_agg, List.map_cons, List.map_nil, sig1_tr, sig1_pt, sig1_v, and_self, true_and, List.length_map, List.length_set]) ?_
    simp -dsimp -implicitDefEqProofs (disch := first | omega | (simp only [lenr]; done) | (simp only [lenr]; omega)) only [↓amPre, amAll, ↓reduceIte, reduceCtorEq, Nat.reduceEqDiff, Nat.reduceBEq, Nat.reduceAdd, Nat.reduceLeDiff, Nat.reduceSub, Nat.reduceMul, Int.reduceToNat, List.size_toArray, tyF, MM, bu0, ipure, kpure, tpure, sspure, kset, tset, ksnoc, tsnoc, Kind.av, Twist.sl, Twist.tr, Invar.av, stsize, stget, sttl, stapp, stext, tsspure, Model.sl, Model.tr, vset, vsnoc, vpure, Puzz.sl, Puzz.tr, keyB_str, keyB_int, MF]
    refine callP_of (q0) ?_
    simp -dsimp -implicitDefEqProofs (disch := first | omega | (simp only [lenr]; done) | (simp only [lenr]; omega)) only [↓amPre, amAll, ↓reduceIte, reduceCtorEq, Nat.reduceEqDiff, Nat.reduceBEq, Nat.reduceAdd, Nat.reduceLeDiff, Nat.reduceSub, Nat.reduceMul, Int.reduceToNat, List.size_toArray, tyF, MM, bu0, ipure, kpure, tpure, sspure, kset, tset, ksnoc, tsnoc, Kind.av, Twist.sl, Twist.tr, Invar.av, stsize, stget, sttl, stapp, stext, tsspure, Model.sl, Model.tr, vset, vsnoc, vpure, Puzz.sl, Puzz.tr, keyB_str, keyB_int, MF]
  have hR : cmpR m = cmpP m := if_pos c
  have hl3 := c.1.1.2
  have hl8 := c.2.1.2
  have hfc : fcI m.ks = facets m.ks := if_pos c.1.2.1
  have q1 := ifaceletCount m.ks (by omega)
  rw [hfc] at q1
  rw [decide_eq_true c] at q0
  rw [decide_eq_true c, hR]
  refine spec_of_awp (M := MM) (np := 1) (fz := false) mixed Try.func26 rfl rfl (by decide) rfl (Nat.le_refl _) (by decide +kernel) (.inl rfl) (by first | trivial | simp only [sigsOk_nil, sigsOk_some, sigsOk_none, sig_tr, sig_pt, sig_mt, sig_agg, List.map_cons, List.map_nil, sig1_tr, sig1_pt, sig1_v, and_self, true_and, List.length_map, List.length_set]) ?_
  simp -dsimp -implicitDefEqProofs (disch := first | omega | (simp only [lenr]; done) | (simp only [lenr]; omega)) only [↓amPre, amAll, ↓reduceIte, reduceCtorEq, Nat.reduceEqDiff, Nat.reduceBEq, Nat.reduceAdd, Nat.reduceLeDiff, Nat.reduceSub, Nat.reduceMul, Int.reduceToNat, List.size_toArray, tyF, MM, bu0, ipure, kpure, tpure, sspure, kset, tset, ksnoc, tsnoc, Kind.av, Twist.sl, Twist.tr, Invar.av, stsize, stget, sttl, stapp, stext, tsspure, Model.sl, Model.tr, vset, vsnoc, vpure, Puzz.sl, Puzz.tr, keyB_str, keyB_int, MF]
  refine callP_of (q0) ?_
  simp -dsimp -implicitDefEqProofs (disch := first | omega | (simp only [lenr]; done) | (simp only [lenr]; omega)) only [↓amPre, amAll, ↓reduceIte, reduceCtorEq, Nat.reduceEqDiff, Nat.reduceBEq, Nat.reduceAdd, Nat.reduceLeDiff, Nat.reduceSub, Nat.reduceMul, Int.reduceToNat, List.size_toArray, tyF, MM, bu0, ipure, kpure, tpure, sspure, kset, tset, ksnoc, tsnoc, Kind.av, Twist.sl, Twist.tr, Invar.av, stsize, stget, sttl, stapp, stext, tsspure, Model.sl, Model.tr, vset, vsnoc, vpure, Puzz.sl, Puzz.tr, keyB_str, keyB_int, MF]
  refine callP_of (q1) ?_
  simp -dsimp -implicitDefEqProofs (disch := first | omega | (simp only [lenr]; done) | (simp only [lenr]; omega)) only [↓amPre, amAll, ↓reduceIte, reduceCtorEq, Nat.reduceEqDiff, Nat.reduceBEq, Nat.reduceAdd, Nat.reduceLeDiff, Nat.reduceSub, Nat.reduceMul, Int.reduceToNat, List.size_toArray, tyF, MM, bu0, ipure, kpure, tpure, sspure, kset, tset, ksnoc, tsnoc, Kind.av, Twist.sl, Twist.tr, Invar.av, stsize, stget, sttl, stapp, stext, tsspure, Model.sl, Model.tr, vset, vsnoc, vpure, Puzz.sl, Puzz.tr, keyB_str, keyB_int, MF]
  refine awp_loopC 4 2 3 1 [.i64 (facets m.ks), .st m.nm, .nilsl] (by simp -dsimp -implicitDefEqProofs (disch := first | omega | (simp only [lenr]; done) | (simp only [lenr]; omega)) only [↓amPre, amAll, ↓reduceIte, reduceCtorEq, Nat.reduceEqDiff, Nat.reduceBEq, Nat.reduceAdd, Nat.reduceLeDiff, Nat.reduceSub, Nat.reduceMul, Int.reduceToNat, List.size_toArray, tyF, MM, bu0, ipure, kpure, tpure, sspure, kset, tset, ksnoc, tsnoc, Kind.av, Twist.sl, Twist.tr, Invar.av, stsize, stget, sttl, stapp, stext, tsspure, Model.sl, Model.tr, vset, vsnoc, vpure, Puzz.sl, Puzz.tr, keyB_str, keyB_int, MF]) (by simp) (by simp) (fun k st => k ≤ m.mv.length ∧ st.fr 20 = .i64 k ∧ st.fr 19 = .i64 m.mv.length ∧ st.fr 18 = tssl m.mv ∧ st.fr 1 = .loc 1 [] 0 0 ∧ st.fr 4 = .loc 4 [] 0 0 ∧ st.fr 2 = .loc 2 [] 0 0 ∧ st.mem 1 = some (.pt 3 (.agg [ksl m.ks, .st m.nm, tssl m.mv])) ∧ st.mem 4 = some (.pt 3 (.agg [.i64 (facets m.ks), .st m.nm, sst ((m.mv.take k).map (permOf m.ks))])) ∧ st.mem 2 = some (.pt 3 (.agg [.i64 0, .st [], .nilsl]))) (m.mv.length) ?_ ?_
  · simp -dsimp -implicitDefEqProofs (disch := first | omega | (simp only [lenr]; done) | (simp only [lenr]; omega)) only [↓amPre, amAll, ↓reduceIte, reduceCtorEq, Nat.reduceEqDiff, Nat.reduceBEq, Nat.reduceAdd, Nat.reduceLeDiff, Nat.reduceSub, Nat.reduceMul, Int.reduceToNat, List.size_toArray, tyF, MM, bu0, ipure, kpure, tpure, sspure, kset, tset, ksnoc, tsnoc, Kind.av, Twist.sl, Twist.tr, Invar.av, stsize, stget, sttl, stapp, stext, tsspure, Model.sl, Model.tr, vset, vsnoc, vpure, Puzz.sl, Puzz.tr, keyB_str, keyB_int, MF, nilC_eq]
    simp
  rintro k st _ ⟨hk, f20, f19, f18, f1, f4, f2, m1, m4, m2⟩
  by_cases hlt : k < m.mv.length
  · have ps := c.2.2.2 _ (mem_getD m.mv k default hlt)
    have hts := cp_take (permOf m.ks) m.mv k hlt
    have hle : ((m.mv.take k).map (permOf m.ks)).length = k := by simp; omega
    have hle1 : (m.mv.take (k + 1)).length = k + 1 := by simp; omega
    have h8 := c.2.2.1
    have q2 := ipiecesToPerm m.ks (m.mv.getD k default) ps
    generalize (m.mv.take k).map (permOf m.ks) = L at *
    simp -dsimp -implicitDefEqProofs (disch := first | omega | (simp only [lenr]; done) | (simp only [lenr]; omega)) only [↓amPre, amAll, ↓reduceIte, reduceCtorEq, Nat.reduceEqDiff, Nat.reduceBEq, Nat.reduceAdd, Nat.reduceLeDiff, Nat.reduceSub, Nat.reduceMul, Int.reduceToNat, List.size_toArray, tyF, MM, bu0, ipure, kpure, tpure, sspure, kset, tset, ksnoc, tsnoc, Kind.av, Twist.sl, Twist.tr, Invar.av, stsize, stget, sttl, stapp, stext, tsspure, Model.sl, Model.tr, vset, vsnoc, vpure, Puzz.sl, Puzz.tr, keyB_str, keyB_int, MF, f20, f19, f18, f1, f4, f2, m1, m4, m2]
    refine callP_of (q2) ?_
    simp -dsimp -implicitDefEqProofs (disch := first | omega | (simp only [lenr]; done) | (simp only [lenr]; omega)) only [↓amPre, amAll, ↓reduceIte, reduceCtorEq, Nat.reduceEqDiff, Nat.reduceBEq, Nat.reduceAdd, Nat.reduceLeDiff, Nat.reduceSub, Nat.reduceMul, Int.reduceToNat, List.size_toArray, tyF, MM, bu0, ipure, kpure, tpure, sspure, kset, tset, ksnoc, tsnoc, Kind.av, Twist.sl, Twist.tr, Invar.av, stsize, stget, sttl, stapp, stext, tsspure, Model.sl, Model.tr, vset, vsnoc, vpure, Puzz.sl, Puzz.tr, keyB_str, keyB_int, MF, f20, f19, f18, f1, f4, f2, m1, m4, m2, ← hts, hle, hle1]
    repeat' (first | omega | rfl | exact i64c (by omega) | exact vic (by omega) | apply And.intro)
  · have hke : k = m.mv.length := by omega
    subst hke
    rw [List.take_length] at m4
    simp -dsimp -implicitDefEqProofs (disch := first | omega | (simp only [lenr]; done) | (simp only [lenr]; omega)) only [↓amPre, amAll, ↓reduceIte, reduceCtorEq, Nat.reduceEqDiff, Nat.reduceBEq, Nat.reduceAdd, Nat.reduceLeDiff, Nat.reduceSub, Nat.reduceMul, Int.reduceToNat, List.size_toArray, tyF, MM, bu0, ipure, kpure, tpure, sspure, kset, tset, ksnoc, tsnoc, Kind.av, Twist.sl, Twist.tr, Invar.av, stsize, stget, sttl, stapp, stext, tsspure, Model.sl, Model.tr, vset, vsnoc, vpure, Puzz.sl, Puzz.tr, keyB_str, keyB_int, MF, f20, f19, f18, f1, f4, f2, m1, m4, m2, cmpP]
theorem sCompile (m : Model) (h : smallM m) : SpecAt Try.prog 35 [m.sl] (.tup [(cmpR m).tr, .bl (decide (modelOk m))]) := by
  have q0 := sIsValidPieceModel m h
  by_cases c : modelOk m
  case neg =>
    have hR : cmpR m = ⟨0, [], []⟩ := if_neg c
    rw [decide_eq_false c] at q0
    rw [decide_eq_false c, hR]
    refine spec_of_awp (M := MM) (np := 1) (fz := false) mixed Try.func35 rfl rfl (by decide) rfl (Nat.le_refl _) (by decide +kernel) (.inl rfl) (by first | trivial | simp only [sigsOk_nil, sigsOk_some, sigsOk_none, sig_tr, sig_pt, sig_mt, sig_agg, List.map_cons, List.map_nil, sig1_tr, sig1_pt, sig1_v, and_self, true_and, List.length_map, List.length_set]) ?_
    simp -dsimp -implicitDefEqProofs (disch := first | omega | (simp only [lenr]; done) | (simp only [lenr]; omega)) only [↓amPre, amAll, ↓reduceIte, reduceCtorEq, Nat.reduceEqDiff, Nat.reduceBEq, Nat.reduceAdd, Nat.reduceLeDiff, Nat.reduceSub, Nat.reduceMul, Int.reduceToNat, List.size_toArray, tyF, MM, bu0, ipure, kpure, tpure, sspure, kset, tset, ksnoc, tsnoc, Kind.av, Twist.sl, Twist.tr, Invar.av, stsize, stget, sttl, stapp, stext, tsspure, Model.sl, Model.tr, vset, vsnoc, vpure, Puzz.sl, Puzz.tr, keyB_str, keyB_int, MF]
    refine callP_of (q0) ?_
    simp -dsimp -implicitDefEqProofs (disch := first | omega | (simp only [lenr]; done) | (simp only [lenr]; omega)) only [↓amPre, amAll, ↓reduceIte, reduceCtorEq, Nat.reduceEqDiff, Nat.reduceBEq, Nat.reduceAdd, Nat.reduceLeDiff, Nat.reduceSub, Nat.reduceMul, Int.reduceToNat, List.size_toArray, tyF, MM, bu0, ipure, kpure, tpure, sspure, kset, tset, ksnoc, tsnoc, Kind.av, Twist.sl, Twist.tr, Invar.av, stsize, stget, sttl, stapp, stext, tsspure, Model.sl, Model.tr, vset, vsnoc, vpure, Puzz.sl, Puzz.tr, keyB_str, keyB_int, MF]
  have hR : cmpR m = cmpP m := if_pos c
  have hl3 := c.1.1.2
  have hl8 := c.2.1.2
  have q1 := sFacelets m.ks c.1
  rw [decide_eq_true c] at q0
  rw [decide_eq_true c, hR]
  refine spec_of_awp (M := MM) (np := 1) (fz := false) mixed Try.func35 rfl rfl (by decide) rfl (Nat.le_refl _) (by decide +kernel) (.inl rfl) (by first | trivial | simp only [sigsOk_nil, sigsOk_some, sigsOk_none, sig_tr, sig_pt, sig_mt, sig_agg, List.map_cons, List.map_nil, sig1_tr, sig1_pt, sig1_v, and_self, true_and, List.length_map, List.length_set]) ?_
  simp -dsimp -implicitDefEqProofs (disch := first | omega | (simp only [lenr]; done) | (simp only [lenr]; omega)) only [↓amPre, amAll, ↓reduceIte, reduceCtorEq, Nat.reduceEqDiff, Nat.reduceBEq, Nat.reduceAdd, Nat.reduceLeDiff, Nat.reduceSub, Nat.reduceMul, Int.reduceToNat, List.size_toArray, tyF, MM, bu0, ipure, kpure, tpure, sspure, kset, tset, ksnoc, tsnoc, Kind.av, Twist.sl, Twist.tr, Invar.av, stsize, stget, sttl, stapp, stext, tsspure, Model.sl, Model.tr, vset, vsnoc, vpure, Puzz.sl, Puzz.tr, keyB_str, keyB_int, MF]
  refine callP_of (q0) ?_
  simp -dsimp -implicitDefEqProofs (disch := first | omega | (simp only [lenr]; done) | (simp only [lenr]; omega)) only [↓amPre, amAll, ↓reduceIte, reduceCtorEq, Nat.reduceEqDiff, Nat.reduceBEq, Nat.reduceAdd, Nat.reduceLeDiff, Nat.reduceSub, Nat.reduceMul, Int.reduceToNat, List.size_toArray, tyF, MM, bu0, ipure, kpure, tpure, sspure, kset, tset, ksnoc, tsnoc, Kind.av, Twist.sl, Twist.tr, Invar.av, stsize, stget, sttl, stapp, stext, tsspure, Model.sl, Model.tr, vset, vsnoc, vpure, Puzz.sl, Puzz.tr, keyB_str, keyB_int, MF]
  refine callP_of (q1) ?_
  simp -dsimp -implicitDefEqProofs (disch := first | omega | (simp only [lenr]; done) | (simp only [lenr]; omega)) only [↓amPre, amAll, ↓reduceIte, reduceCtorEq, Nat.reduceEqDiff, Nat.reduceBEq, Nat.reduceAdd, Nat.reduceLeDiff, Nat.reduceSub, Nat.reduceMul, Int.reduceToNat, List.size_toArray, tyF, MM, bu0, ipure, kpure, tpure, sspure, kset, tset, ksnoc, tsnoc, Kind.av, Twist.sl, Twist.tr, Invar.av, stsize, stget, sttl, stapp, stext, tsspure, Model.sl, Model.tr, vset, vsnoc, vpure, Puzz.sl, Puzz.tr, keyB_str, keyB_int, MF]
  refine awp_loopC 4 2 3 1 [.i64 (facets m.ks), .st m.nm, .nilsl] (by simp -dsimp -implicitDefEqProofs (disch := first | omega | (simp only [lenr]; done) | (simp only [lenr]; omega)) only [↓amPre, amAll, ↓reduceIte, reduceCtorEq, Nat.reduceEqDiff, Nat.reduceBEq, Nat.reduceAdd, Nat.reduceLeDiff, Nat.reduceSub, Nat.reduceMul, Int.reduceToNat, List.size_toArray, tyF, MM, bu0, ipure, kpure, tpure, sspure, kset, tset, ksnoc, tsnoc, Kind.av, Twist.sl, Twist.tr, Invar.av, stsize, stget, sttl, stapp, stext, tsspure, Model.sl, Model.tr, vset, vsnoc, vpure, Puzz.sl, Puzz.tr, keyB_str, keyB_int, MF]) (by simp) (by simp) (fun k st => k ≤ m.mv.length ∧ st.fr 5 = .i64 k ∧ st.fr 1 = .loc 1 [] 0 0 ∧ st.fr 4 = .loc 4 [] 0 0 ∧ st.fr 2 = .loc 2 [] 0 0 ∧ st.mem 1 = some (.pt 3 (.agg [ksl m.ks, .st m.nm, tssl m.mv])) ∧ st.mem 4 = some (.pt 3 (.agg [.i64 (facets m.ks), .st m.nm, sst ((m.mv.take k).map (permOf m.ks))])) ∧ st.mem 2 = some (.pt 3 (.agg [.i64 0, .st [], .nilsl]))) (m.mv.length) ?_ ?_
  · simp -dsimp -implicitDefEqProofs (disch := first | omega | (simp only [lenr]; done) | (simp only [lenr]; omega)) only [↓amPre, amAll, ↓reduceIte, reduceCtorEq, Nat.reduceEqDiff, Nat.reduceBEq, Nat.reduceAdd, Nat.reduceLeDiff, Nat.reduceSub, Nat.reduceMul, Int.reduceToNat, List.size_toArray, tyF, MM, bu0, ipure, kpure, tpure, sspure, kset, tset, ksnoc, tsnoc, Kind.av, Twist.sl, Twist.tr, Invar.av, stsize, stget, sttl, stapp, stext, tsspure, Model.sl, Model.tr, vset, vsnoc, vpure, Puzz.sl, Puzz.tr, keyB_str, keyB_int, MF, nilC_eq]
    simp
  rintro k st _ ⟨hk, f5, f1, f4, f2, m1, m4, m2⟩
  by_cases hlt : k < m.mv.length
  · have ps := c.2.2.2 _ (mem_getD m.mv k default hlt)
    have hts := cp_take (permOf m.ks) m.mv k hlt
    have hle : ((m.mv.take k).map (permOf m.ks)).length = k := by simp; omega
    have hle1 : (m.mv.take (k + 1)).length = k + 1 := by simp; omega
    have h8 := c.2.2.1
    have q2 := sl21Permutation m.ks (m.mv.getD k default) ps
    generalize (m.mv.take k).map (permOf m.ks) = L at *
    simp -dsimp -implicitDefEqProofs (disch := first | omega | (simp only [lenr]; done) | (simp only [lenr]; omega)) only [↓amPre, amAll, ↓reduceIte, reduceCtorEq, Nat.reduceEqDiff, Nat.reduceBEq, Nat.reduceAdd, Nat.reduceLeDiff, Nat.reduceSub, Nat.reduceMul, Int.reduceToNat, List.size_toArray, tyF, MM, bu0, ipure, kpure, tpure, sspure, kset, tset, ksnoc, tsnoc, Kind.av, Twist.sl, Twist.tr, Invar.av, stsize, stget, sttl, stapp, stext, tsspure, Model.sl, Model.tr, vset, vsnoc, vpure, Puzz.sl, Puzz.tr, keyB_str, keyB_int, MF, f5, f1, f4, f2, m1, m4, m2]
    refine callP_of (q2) ?_
    simp -dsimp -implicitDefEqProofs (disch := first | omega | (simp only [lenr]; done) | (simp only [lenr]; omega)) only [↓amPre, amAll, ↓reduceIte, reduceCtorEq, Nat.reduceEqDiff, Nat.reduceBEq, Nat.reduceAdd, Nat.reduceLeDiff, Nat.reduceSub, Nat.reduceMul, Int.reduceToNat, List.size_toArray, tyF, MM, bu0, ipure, kpure, tpure, sspure, kset, tset, ksnoc, tsnoc, Kind.av, Twist.sl, Twist.tr, Invar.av, stsize, stget, sttl, stapp, stext, tsspure, Model.sl, Model.tr, vset, vsnoc, vpure, Puzz.sl, Puzz.tr, keyB_str, keyB_int, MF, f5, f1, f4, f2, m1, m4, m2, ← hts, hle, hle1]
    repeat' (first | omega | rfl | exact i64c (by omega) | exact vic (by omega) | apply And.intro)
  · have hke : k = m.mv.length := by omega
    subst hke
    rw [List.take_length] at m4
    simp -dsimp -implicitDefEqProofs (disch := first | omega | (simp only [lenr]; done) | (simp only [lenr]; omega)) only [↓amPre, amAll, ↓reduceIte, reduceCtorEq, Nat.reduceEqDiff, Nat.reduceBEq, Nat.reduceAdd, Nat.reduceLeDiff, Nat.reduceSub, Nat.reduceMul, Int.reduceToNat, List.size_toArray, tyF, MM, bu0, ipure, kpure, tpure, sspure, kset, tset, ksnoc, tsnoc, Kind.av, Twist.sl, Twist.tr, Invar.av, stsize, stget, sttl, stapp, stext, tsspure, Model.sl, Model.tr, vset, vsnoc, vpure, Puzz.sl, Puzz.tr, keyB_str, keyB_int, MF, f5, f1, f4, f2, m1, m4, m2, cmpP]
theorem lawCompile (m : Model) (w : wfM m) : SpecAt Try.prog 5 [m.sl] (.bl true) := by
  refine spec_of_awp_any (M := MM) (np := 1) (X := [10]) (fz := true) mixed Try.func5 rfl rfl (by decide) rfl (Nat.le_refl _) (by decide +kernel) (.inr ⟨rfl, rfl⟩) trivial ?_
  simp -dsimp -implicitDefEqProofs (disch := first | omega | (simp only [lenr]; done) | (simp only [lenr]; omega)) only [↓amPre, amAll, ↓reduceIte, reduceCtorEq, Nat.reduceEqDiff, Nat.reduceBEq, Nat.reduceAdd, Nat.reduceLeDiff, Nat.reduceSub, Nat.reduceMul, Int.reduceToNat, List.size_toArray, tyF, MM, bu0, ipure, kpure, tpure, sspure, kset, tset, ksnoc, tsnoc, Kind.av, Twist.sl, Twist.tr, Invar.av, stsize, stget, sttl, stapp, stext, tsspure, Model.sl, Model.tr, vset, vsnoc, vpure, Puzz.sl, Puzz.tr, keyB_str, keyB_int, MF]
  refine callP_of (szPieceModel m 1048576 (by omega) (by omega) w) ?_
  by_cases c1 : (1048576 : Int) - m.size < 0
  · simp -dsimp -implicitDefEqProofs (disch := first | omega | (simp only [lenr]; done) | (simp only [lenr]; omega)) only [↓amPre, amAll, ↓reduceIte, reduceCtorEq, Nat.reduceEqDiff, Nat.reduceBEq, Nat.reduceAdd, Nat.reduceLeDiff, Nat.reduceSub, Nat.reduceMul, Int.reduceToNat, List.size_toArray, tyF, MM, bu0, ipure, kpure, tpure, sspure, kset, tset, ksnoc, tsnoc, Kind.av, Twist.sl, Twist.tr, Invar.av, stsize, stget, sttl, stapp, stext, tsspure, Model.sl, Model.tr, vset, vsnoc, vpure, Puzz.sl, Puzz.tr, keyB_str, keyB_int, MF, szR_neg c1]
  have c1' : 0 ≤ (1048576 : Int) - m.size := by omega
  obtain ⟨h, hb⟩ := szM_small (by omega) c1'
  have hks : m.ks.length ≤ m.size := by unfold Model.size; omega
  have hr := cmpR_small m
  have hc : cnts (cmpR m).mv ≤ 160 := by
    have := cnts_bound (cmpR m).mv 20 (fun s hs => by
      unfold cmpR at hs
      split at hs
      · rename_i hm
        obtain ⟨t, ht, rfl⟩ := List.mem_map.1 hs
        exact permOf_le (hm.2.2.2 t ht)
      · cases hs)
    have : (cmpR m).mv.length ≤ 8 := by
      unfold cmpR
      split
      · rename_i hm
        have := hm.2.1.2; have := hm.2.2.1
        simp only [cmpP, List.length_map]; omega
      · simp
    omega
  have q1 := sCompile m h
  have q2 := iCompile m h
  generalize cmpR m = r at hr hc q1 q2
  generalize decide (modelOk m) = b at q1 q2
  have hrf : Puzz.sl ⟨r.n, r.nm, r.mv⟩ = r.sl := rfl
  simp -dsimp -implicitDefEqProofs (disch := first | omega | (simp only [lenr]; done) | (simp only [lenr]; omega)) only [↓amPre, amAll, ↓reduceIte, reduceCtorEq, Nat.reduceEqDiff, Nat.reduceBEq, Nat.reduceAdd, Nat.reduceLeDiff, Nat.reduceSub, Nat.reduceMul, Int.reduceToNat, List.size_toArray, tyF, MM, bu0, ipure, kpure, tpure, sspure, kset, tset, ksnoc, tsnoc, Kind.av, Twist.sl, Twist.tr, Invar.av, stsize, stget, sttl, stapp, stext, tsspure, Model.sl, Model.tr, vset, vsnoc, vpure, Puzz.sl, Puzz.tr, keyB_str, keyB_int, MF, szR_pos c1']
  refine callP_of (toPieceModel m h) ?_
  simp -dsimp -implicitDefEqProofs (disch := first | omega | (simp only [lenr]; done) | (simp only [lenr]; omega)) only [↓amPre, amAll, ↓reduceIte, reduceCtorEq, Nat.reduceEqDiff, Nat.reduceBEq, Nat.reduceAdd, Nat.reduceLeDiff, Nat.reduceSub, Nat.reduceMul, Int.reduceToNat, List.size_toArray, tyF, MM, bu0, ipure, kpure, tpure, sspure, kset, tset, ksnoc, tsnoc, Kind.av, Twist.sl, Twist.tr, Invar.av, stsize, stget, sttl, stapp, stext, tsspure, Model.sl, Model.tr, vset, vsnoc, vpure, Puzz.sl, Puzz.tr, keyB_str, keyB_int, MF, kfz, tssfz, ssfz, bne_self_eq_false]
  refine callP_of (q1) ?_
  simp -dsimp -implicitDefEqProofs (disch := first | omega | (simp only [lenr]; done) | (simp only [lenr]; omega)) only [↓amPre, amAll, ↓reduceIte, reduceCtorEq, Nat.reduceEqDiff, Nat.reduceBEq, Nat.reduceAdd, Nat.reduceLeDiff, Nat.reduceSub, Nat.reduceMul, Int.reduceToNat, List.size_toArray, tyF, MM, bu0, ipure, kpure, tpure, sspure, kset, tset, ksnoc, tsnoc, Kind.av, Twist.sl, Twist.tr, Invar.av, stsize, stget, sttl, stapp, stext, tsspure, Model.sl, Model.tr, vset, vsnoc, vpure, Puzz.sl, Puzz.tr, keyB_str, keyB_int, MF, kfz, tssfz, ssfz, bne_self_eq_false]
  refine callP_of (toPieceModel m h) ?_
  simp -dsimp -implicitDefEqProofs (disch := first | omega | (simp only [lenr]; done) | (simp only [lenr]; omega)) only [↓amPre, amAll, ↓reduceIte, reduceCtorEq, Nat.reduceEqDiff, Nat.reduceBEq, Nat.reduceAdd, Nat.reduceLeDiff, Nat.reduceSub, Nat.reduceMul, Int.reduceToNat, List.size_toArray, tyF, MM, bu0, ipure, kpure, tpure, sspure, kset, tset, ksnoc, tsnoc, Kind.av, Twist.sl, Twist.tr, Invar.av, stsize, stget, sttl, stapp, stext, tsspure, Model.sl, Model.tr, vset, vsnoc, vpure, Puzz.sl, Puzz.tr, keyB_str, keyB_int, MF, kfz, tssfz, ssfz, bne_self_eq_false]
  refine callP_of (q2) ?_
  simp -dsimp -implicitDefEqProofs (disch := first | omega | (simp only [lenr]; done) | (simp only [lenr]; omega)) only [↓amPre, amAll, ↓reduceIte, reduceCtorEq, Nat.reduceEqDiff, Nat.reduceBEq, Nat.reduceAdd, Nat.reduceLeDiff, Nat.reduceSub, Nat.reduceMul, Int.reduceToNat, List.size_toArray, tyF, MM, bu0, ipure, kpure, tpure, sspure, kset, tset, ksnoc, tsnoc, Kind.av, Twist.sl, Twist.tr, Invar.av, stsize, stget, sttl, stapp, stext, tsspure, Model.sl, Model.tr, vset, vsnoc, vpure, Puzz.sl, Puzz.tr, keyB_str, keyB_int, MF, kfz, tssfz, ssfz, bne_self_eq_false]
  refine callP_of (eqPuzzle r r hr) ?_
  simp -dsimp -implicitDefEqProofs (disch := first | omega | (simp only [lenr]; done) | (simp only [lenr]; omega)) only [↓amPre, amAll, ↓reduceIte, reduceCtorEq, Nat.reduceEqDiff, Nat.reduceBEq, Nat.reduceAdd, Nat.reduceLeDiff, Nat.reduceSub, Nat.reduceMul, Int.reduceToNat, List.size_toArray, tyF, MM, bu0, ipure, kpure, tpure, sspure, kset, tset, ksnoc, tsnoc, Kind.av, Twist.sl, Twist.tr, Invar.av, stsize, stget, sttl, stapp, stext, tsspure, Model.sl, Model.tr, vset, vsnoc, vpure, Puzz.sl, Puzz.tr, keyB_str, keyB_int, MF, kfz, tssfz, ssfz, bne_self_eq_false]
  refine split_go 3 (by decide +kernel) ?_
  simp -dsimp -implicitDefEqProofs (disch := first | omega | (simp only [lenr]; done) | (simp only [lenr]; omega)) only [↓amPre, amAll, ↓reduceIte, reduceCtorEq, Nat.reduceEqDiff, Nat.reduceBEq, Nat.reduceAdd, Nat.reduceLeDiff, Nat.reduceSub, Nat.reduceMul, Int.reduceToNat, List.size_toArray, tyF, MM, bu0, ipure, kpure, tpure, sspure, kset, tset, ksnoc, tsnoc, Kind.av, Twist.sl, Twist.tr, Invar.av, stsize, stget, sttl, stapp, stext, tsspure, Model.sl, Model.tr, vset, vsnoc, vpure, Puzz.sl, Puzz.tr, keyB_str, keyB_int, MF, kfz, tssfz, ssfz]
  refine callP_of (toPieceModel m h) ?_
  simp -dsimp -implicitDefEqProofs (disch := first | omega | (simp only [lenr]; done) | (simp only [lenr]; omega)) only [↓amPre, amAll, ↓reduceIte, reduceCtorEq, Nat.reduceEqDiff, Nat.reduceBEq, Nat.reduceAdd, Nat.reduceLeDiff, Nat.reduceSub, Nat.reduceMul, Int.reduceToNat, List.size_toArray, tyF, MM, bu0, ipure, kpure, tpure, sspure, kset, tset, ksnoc, tsnoc, Kind.av, Twist.sl, Twist.tr, Invar.av, stsize, stget, sttl, stapp, stext, tsspure, Model.sl, Model.tr, vset, vsnoc, vpure, Puzz.sl, Puzz.tr, keyB_str, keyB_int, MF, kfz, tssfz, ssfz, bne_self_eq_false]
  refine callP_of (eqPieceModel m m h) ?_
  simp -dsimp -implicitDefEqProofs (disch := first | omega | (simp only [lenr]; done) | (simp only [lenr]; omega)) only [↓amPre, amAll, ↓reduceIte, reduceCtorEq, Nat.reduceEqDiff, Nat.reduceBEq, Nat.reduceAdd, Nat.reduceLeDiff, Nat.reduceSub, Nat.reduceMul, Int.reduceToNat, List.size_toArray, tyF, MM, bu0, ipure, kpure, tpure, sspure, kset, tset, ksnoc, tsnoc, Kind.av, Twist.sl, Twist.tr, Invar.av, stsize, stget, sttl, stapp, stext, tsspure, Model.sl, Model.tr, vset, vsnoc, vpure, Puzz.sl, Puzz.tr, keyB_str, keyB_int, MF, kfz, tssfz, ssfz, bne_self_eq_false]
  refine callX_of (markPieceModel m 1 (by omega) (by omega) h) ?_
  simp -dsimp -implicitDefEqProofs (disch := first | omega | (simp only [lenr]; done) | (simp only [lenr]; omega)) only [↓amPre, amAll, ↓reduceIte, reduceCtorEq, Nat.reduceEqDiff, Nat.reduceBEq, Nat.reduceAdd, Nat.reduceLeDiff, Nat.reduceSub, Nat.reduceMul, Int.reduceToNat, List.size_toArray, tyF, MM, bu0, ipure, kpure, tpure, sspure, kset, tset, ksnoc, tsnoc, Kind.av, Twist.sl, Twist.tr, Invar.av, stsize, stget, sttl, stapp, stext, tsspure, Model.sl, Model.tr, vset, vsnoc, vpure, Puzz.sl, Puzz.tr, keyB_str, keyB_int, MF, kfz, tssfz, ssfz, mks_len, bne_self_eq_false]
  refine callP_of (eqPuzzle r r hr) ?_
  simp -dsimp -implicitDefEqProofs (disch := first | omega | (simp only [lenr]; done) | (simp only [lenr]; omega)) only [↓amPre, amAll, ↓reduceIte, reduceCtorEq, Nat.reduceEqDiff, Nat.reduceBEq, Nat.reduceAdd, Nat.reduceLeDiff, Nat.reduceSub, Nat.reduceMul, Int.reduceToNat, List.size_toArray, tyF, MM, bu0, ipure, kpure, tpure, sspure, kset, tset, ksnoc, tsnoc, Kind.av, Twist.sl, Twist.tr, Invar.av, stsize, stget, sttl, stapp, stext, tsspure, Model.sl, Model.tr, vset, vsnoc, vpure, Puzz.sl, Puzz.tr, keyB_str, keyB_int, MF, kfz, tssfz, ssfz, mks_len, bne_self_eq_false]
  refine callX_of (markPuzzleX r 1 (by omega) (by omega) hr) ?_
  simp -dsimp -implicitDefEqProofs (disch := first | omega | (simp only [lenr]; done) | (simp only [lenr]; omega)) only [↓amPre, amAll, ↓reduceIte, reduceCtorEq, Nat.reduceEqDiff, Nat.reduceBEq, Nat.reduceAdd, Nat.reduceLeDiff, Nat.reduceSub, Nat.reduceMul, Int.reduceToNat, List.size_toArray, tyF, MM, bu0, ipure, kpure, tpure, sspure, kset, tset, ksnoc, tsnoc, Kind.av, Twist.sl, Twist.tr, Invar.av, stsize, stget, sttl, stapp, stext, tsspure, Model.sl, Model.tr, vset, vsnoc, vpure, Puzz.sl, Puzz.tr, keyB_str, keyB_int, MF, kfz, tssfz, ssfz, mks_len, bne_self_eq_false]
  refine callP_of (heldPuzzle r 1 (by omega) (by omega) hr) ?_
  simp -dsimp -implicitDefEqProofs (disch := first | omega | (simp only [lenr]; done) | (simp only [lenr]; omega)) only [↓amPre, amAll, ↓reduceIte, reduceCtorEq, Nat.reduceEqDiff, Nat.reduceBEq, Nat.reduceAdd, Nat.reduceLeDiff, Nat.reduceSub, Nat.reduceMul, Int.reduceToNat, List.size_toArray, tyF, MM, bu0, ipure, kpure, tpure, sspure, kset, tset, ksnoc, tsnoc, Kind.av, Twist.sl, Twist.tr, Invar.av, stsize, stget, sttl, stapp, stext, tsspure, Model.sl, Model.tr, vset, vsnoc, vpure, Puzz.sl, Puzz.tr, keyB_str, keyB_int, MF, kfz, tssfz, ssfz, mks_len, bne_self_eq_false]
  refine callP_of (toPieceModel m h) ?_
  simp -dsimp -implicitDefEqProofs (disch := first | omega | (simp only [lenr]; done) | (simp only [lenr]; omega)) only [↓amPre, amAll, ↓reduceIte, reduceCtorEq, Nat.reduceEqDiff, Nat.reduceBEq, Nat.reduceAdd, Nat.reduceLeDiff, Nat.reduceSub, Nat.reduceMul, Int.reduceToNat, List.size_toArray, tyF, MM, bu0, ipure, kpure, tpure, sspure, kset, tset, ksnoc, tsnoc, Kind.av, Twist.sl, Twist.tr, Invar.av, stsize, stget, sttl, stapp, stext, tsspure, Model.sl, Model.tr, vset, vsnoc, vpure, Puzz.sl, Puzz.tr, keyB_str, keyB_int, MF, kfz, tssfz, ssfz, mks_len, bne_self_eq_false]
  refine callP_of (q2) ?_
  simp -dsimp -implicitDefEqProofs (disch := first | omega | (simp only [lenr]; done) | (simp only [lenr]; omega)) only [↓amPre, amAll, ↓reduceIte, reduceCtorEq, Nat.reduceEqDiff, Nat.reduceBEq, Nat.reduceAdd, Nat.reduceLeDiff, Nat.reduceSub, Nat.reduceMul, Int.reduceToNat, List.size_toArray, tyF, MM, bu0, ipure, kpure, tpure, sspure, kset, tset, ksnoc, tsnoc, Kind.av, Twist.sl, Twist.tr, Invar.av, stsize, stget, sttl, stapp, stext, tsspure, Model.sl, Model.tr, vset, vsnoc, vpure, Puzz.sl, Puzz.tr, keyB_str, keyB_int, MF, kfz, tssfz, ssfz, mks_len, bne_self_eq_false]
  refine callP_of (eqPuzzle r r hr) ?_
  simp -dsimp -implicitDefEqProofs (disch := first | omega | (simp only [lenr]; done) | (simp only [lenr]; omega)) only [↓amPre, amAll, ↓reduceIte, reduceCtorEq, Nat.reduceEqDiff, Nat.reduceBEq, Nat.reduceAdd, Nat.reduceLeDiff, Nat.reduceSub, Nat.reduceMul, Int.reduceToNat, List.size_toArray, tyF, MM, bu0, ipure, kpure, tpure, sspure, kset, tset, ksnoc, tsnoc, Kind.av, Twist.sl, Twist.tr, Invar.av, stsize, stget, sttl, stapp, stext, tsspure, Model.sl, Model.tr, vset, vsnoc, vpure, Puzz.sl, Puzz.tr, keyB_str, keyB_int, MF, kfz, tssfz, ssfz, mks_len, bne_self_eq_false]
  refine callP_of (heldPuzzle r 1 (by omega) (by omega) hr) ?_
  simp -dsimp -implicitDefEqProofs (disch := first | omega | (simp only [lenr]; done) | (simp only [lenr]; omega)) only [↓amPre, amAll, ↓reduceIte, reduceCtorEq, Nat.reduceEqDiff, Nat.reduceBEq, Nat.reduceAdd, Nat.reduceLeDiff, Nat.reduceSub, Nat.reduceMul, Int.reduceToNat, List.size_toArray, tyF, MM, bu0, ipure, kpure, tpure, sspure, kset, tset, ksnoc, tsnoc, Kind.av, Twist.sl, Twist.tr, Invar.av, stsize, stget, sttl, stapp, stext, tsspure, Model.sl, Model.tr, vset, vsnoc, vpure, Puzz.sl, Puzz.tr, keyB_str, keyB_int, MF, kfz, tssfz, ssfz, mks_len, bne_self_eq_false]
end Go.AM

/-
  CONTRACTS of functions of the program, and what they compute, by content.
-/
import Derived.Test.YtbhaeaehgmpfhaaCU13
import Derived.Test.YtbhaeaehgmpfhaaCP4
set_option linter.unusedVariables false
set_option linter.unusedSimpArgs false
set_option maxRecDepth 8000
namespace Go.AM
open Go.Proofs
def itL (p : List Int) (x k : Nat) : List Int := (List.range k).map fun i => ((itN (fOf p) i x : Nat) : Int)
theorem itL_succ (p : List Int) (x k : Nat) : itL p x (k + 1) = itL p x k ++ [((itN (fOf p) k x : Nat) : Int)] := range_succ_map _ k
theorem itL_len (p : List Int) (x k : Nat) : (itL p x k).length = k := by simp [itL]
def cycK (p : List Int) (k : Nat) : List (List Int) := ((List.range k).filter (minI p)).map (orbI p)
theorem cycK_le (p : List Int) (k : Nat) : (cycK p k).length ≤ k := by
  rw [cycK, List.length_map]; have := List.length_filter_le (minI p) (List.range k); rw [List.length_range] at this; exact this
theorem filter_range_succ (pr : Nat → Bool) (k : Nat) : (List.range (k + 1)).filter pr = (List.range k).filter pr ++ (if pr k then [k] else []) := by
  rw [List.range_succ, List.filter_append]
  congr 1
  simp [List.filter_cons]
theorem cycK_succ (p : List Int) (k : Nat) : cycK p (k + 1) = cycK p k ++ (if minI p k then [orbI p k] else []) := by
  rw [cycK, filter_range_succ, List.map_append, ← cycK]; split <;> rfl
theorem orbI_itL (p : List Int) (x : Nat) : orbI p x = itL p x (perN p.length (fOf p) x) := orbI_eq p x
theorem scycleOf (p : List Int) (hp : isPerm p) (x : Nat) (hx : x < p.length) : SpecAt Try.prog 239 [isl p, .i64 x] (itr (orbI p x)) := by
  have hF := permF_of hp
  obtain ⟨q1, q2, q3, q4⟩ := hF.per x hx
  have hl20 := hp.1.2
  have h0 := p_it hp hx 0
  rw [itN] at h0
  rw [orbI_itL]
  generalize hper : perN p.length (fOf p) x = N at q1 q2 q3 q4
  refine spec_of_awp (M := MM) (np := 2) (fz := false) mixed Try.func239 rfl rfl (by decide) rfl (Nat.le_refl _) (by decide +kernel) (.inl rfl) (by first | trivial | simp only [sigsOk_nil, sigsOk_some, sigsOk_none, sig_tr, sig_pt, sig_mt, sig_agg, List.map_cons, List.map_nil, sig1_tr, sig1_pt, sig1_v, and_self, true_and, List.length_map, List.length_set]) ?_
  simp -dsimp -implicitDefEqProofs (disch := first | omega | (simp only [lenr]; done) | (simp only [lenr]; omega)) only [↓amPre, amPost0, amPost1, amPost2, amPost3, ↓reduceIte, reduceCtorEq, Nat.reduceEqDiff, Nat.reduceBEq, Nat.reduceAdd, Nat.reduceLeDiff, Nat.reduceSub, Nat.reduceMul, Int.reduceToNat, List.size_toArray, tyF, MM, bu0, ipure, kpure, tpure, sspure, kset, tset, ksnoc, tsnoc, Kind.av, Twist.sl, Twist.tr, Invar.av, stsize, stget, sttl, stapp, stext, tsspure, Model.sl, Model.tr, h0]
  refine awp_loopR 8 23 (.tr 1 [.i64 x]) (by simp -dsimp -implicitDefEqProofs (disch := first | omega | (simp only [lenr]; done) | (simp only [lenr]; omega)) only [↓amPre, amPost0, amPost1, amPost2, amPost3, ↓reduceIte, reduceCtorEq, Nat.reduceEqDiff, Nat.reduceBEq, Nat.reduceAdd, Nat.reduceLeDiff, Nat.reduceSub, Nat.reduceMul, Int.reduceToNat, List.size_toArray, tyF, MM, bu0, ipure, kpure, tpure, sspure, kset, tset, ksnoc, tsnoc, Kind.av, Twist.sl, Twist.tr, Invar.av, stsize, stget, sttl, stapp, stext, tsspure, Model.sl, Model.tr]) (by decide) (by decide) (by decide) (fun k st => k ≤ (N - 1) ∧ st.fr 6 = .i64 (itN (fOf p) (k + 1) x : Nat) ∧ st.fr 5 = .ref 23 [] 1 0 (k + 1) ∧ st.fr 0 = isl p ∧ st.fr 1 = .i64 x ∧ st.mem 23 = some (itr (itL p x (k + 1)))) ((N - 1)) ?_ ?_
  · simp -dsimp -implicitDefEqProofs (disch := first | omega | (simp only [lenr]; done) | (simp only [lenr]; omega)) only [↓amPre, amPost0, amPost1, amPost2, amPost3, ↓reduceIte, reduceCtorEq, Nat.reduceEqDiff, Nat.reduceBEq, Nat.reduceAdd, Nat.reduceLeDiff, Nat.reduceSub, Nat.reduceMul, Int.reduceToNat, List.size_toArray, tyF, MM, bu0, ipure, kpure, tpure, sspure, kset, tset, ksnoc, tsnoc, Kind.av, Twist.sl, Twist.tr, Invar.av, stsize, stget, sttl, stapp, stext, tsspure, Model.sl, Model.tr, ren_eq, h0]
    simp [itN, itL]
  rintro k st _ ⟨hk, f6, f5, f0, f1, m23⟩
  have hy := hF.itlt (k + 1) x hx
  have hn := p_it hp hx (k + 1)
  have hrl := itL_len p x (k + 1)
  have hrl2 := itL_len p x (k + 2)
  by_cases c : itN (fOf p) (k + 1) x = x
  · have hk1 : k + 1 = N := by
      apply Classical.byContradiction
      intro hne
      exact q4 (k + 1) (by omega) (by omega) c
    have c' : (((itN (fOf p) (k + 1) x : Nat) : Int) != (x : Int)) = false := ne_false (by rw [c])
    subst hk1
    simp -dsimp -implicitDefEqProofs (disch := first | omega | (simp only [lenr]; done) | (simp only [lenr]; omega)) only [↓amPre, amPost0, amPost1, amPost2, amPost3, ↓reduceIte, reduceCtorEq, Nat.reduceEqDiff, Nat.reduceBEq, Nat.reduceAdd, Nat.reduceLeDiff, Nat.reduceSub, Nat.reduceMul, Int.reduceToNat, List.size_toArray, tyF, MM, bu0, ipure, kpure, tpure, sspure, kset, tset, ksnoc, tsnoc, Kind.av, Twist.sl, Twist.tr, Invar.av, stsize, stget, sttl, stapp, stext, tsspure, Model.sl, Model.tr, f6, f5, f0, f1, m23, c', hrl]
  · have c' : (((itN (fOf p) (k + 1) x : Nat) : Int) != (x : Int)) = true := ne_true (by omega)
    have hk1 : k + 1 < N := by
      apply Classical.byContradiction
      intro hge
      have : k + 1 = N := by omega
      rw [this] at c; exact c q3
    have hsn := itL_succ p x (k + 1)
    simp -dsimp -implicitDefEqProofs (disch := first | omega | (simp only [lenr]; done) | (simp only [lenr]; omega)) only [↓amPre, amPost0, amPost1, amPost2, amPost3, ↓reduceIte, reduceCtorEq, Nat.reduceEqDiff, Nat.reduceBEq, Nat.reduceAdd, Nat.reduceLeDiff, Nat.reduceSub, Nat.reduceMul, Int.reduceToNat, List.size_toArray, tyF, MM, bu0, ipure, kpure, tpure, sspure, kset, tset, ksnoc, tsnoc, Kind.av, Twist.sl, Twist.tr, Invar.av, stsize, stget, sttl, stapp, stext, tsspure, Model.sl, Model.tr, f6, f5, f0, f1, m23, c', hn, hrl, hrl2, ← hsn]
    repeat' (first | omega | rfl | exact i64c (by omega) | exact vic (by omega) | apply And.intro)
theorem sisSmallest (l : List Int) (h1 : 1 ≤ l.length) (h2 : l.length ≤ 20) : SpecAt Try.prog 240 [isl l] (.bl (l.all fun y => decide (l.getD 0 0 ≤ y))) := by
  refine spec_of_awp (M := MM) (np := 1) (fz := true) mixed Try.func240 rfl rfl (by decide) rfl (Nat.le_refl _) (by decide +kernel) (.inr ⟨rfl, rfl⟩) trivial ?_
  simp -dsimp -implicitDefEqProofs (disch := first | omega | (simp only [lenr]; done) | (simp only [lenr]; omega)) only [↓amPre, amPost0, amPost1, amPost2, amPost3, ↓reduceIte, reduceCtorEq, Nat.reduceEqDiff, Nat.reduceBEq, Nat.reduceAdd, Nat.reduceLeDiff, Nat.reduceSub, Nat.reduceMul, Int.reduceToNat, List.size_toArray, tyF, MM, bu0, ipure, kpure, tpure, sspure, kset, tset, ksnoc, tsnoc, Kind.av, Twist.sl, Twist.tr, Invar.av, stsize, stget, sttl, stapp, stext, tsspure, Model.sl, Model.tr]
  have fin : ∀ b : Bool, (b = true ↔ ∀ y ∈ l, l.getD 0 0 ≤ y) → Value.bool b = Value.bool (l.all fun y => decide (l.getD 0 0 ≤ y)) := fun b h => bl_eq (by rw [h]; simp)
  refine awp_loop (fun k st => k ≤ l.length ∧ st.fr 3 = .i64 (k + 1) ∧ st.fr 0 = isl l ∧ ∀ y ∈ l.take (k + 1), l.getD 0 0 ≤ y) (l.length) ?_ ?_
  · simp -dsimp -implicitDefEqProofs (disch := first | omega | (simp only [lenr]; done) | (simp only [lenr]; omega)) only [↓amPre, amPost0, amPost1, amPost2, amPost3, ↓reduceIte, reduceCtorEq, Nat.reduceEqDiff, Nat.reduceBEq, Nat.reduceAdd, Nat.reduceLeDiff, Nat.reduceSub, Nat.reduceMul, Int.reduceToNat, List.size_toArray, tyF, MM, bu0, ipure, kpure, tpure, sspure, kset, tset, ksnoc, tsnoc, Kind.av, Twist.sl, Twist.tr, Invar.av, stsize, stget, sttl, stapp, stext, tsspure, Model.sl, Model.tr]
    refine ⟨Nat.zero_le _, rfl, fun y hy => ?_⟩
    rw [take_succ_eq l 0 0 h1] at hy
    simp only [List.take_zero, List.nil_append, List.mem_singleton] at hy
    rw [hy]; exact Int.le_refl _
  rintro k st _ ⟨hk, f3, f0, ek⟩
  by_cases hlt : k + 1 < l.length
  · simp -dsimp -implicitDefEqProofs (disch := first | omega | (simp only [lenr]; done) | (simp only [lenr]; omega)) only [↓amPre, amPost0, amPost1, amPost2, amPost3, ↓reduceIte, reduceCtorEq, Nat.reduceEqDiff, Nat.reduceBEq, Nat.reduceAdd, Nat.reduceLeDiff, Nat.reduceSub, Nat.reduceMul, Int.reduceToNat, List.size_toArray, tyF, MM, bu0, ipure, kpure, tpure, sspure, kset, tset, ksnoc, tsnoc, Kind.av, Twist.sl, Twist.tr, Invar.av, stsize, stget, sttl, stapp, stext, tsspure, Model.sl, Model.tr, f3, f0]
    refine ifP_mk ?_ ?_ <;> intro w
    · simp -dsimp -implicitDefEqProofs (disch := first | omega | (simp only [lenr]; done) | (simp only [lenr]; omega)) only [↓amPre, amPost0, amPost1, amPost2, amPost3, ↓reduceIte, reduceCtorEq, Nat.reduceEqDiff, Nat.reduceBEq, Nat.reduceAdd, Nat.reduceLeDiff, Nat.reduceSub, Nat.reduceMul, Int.reduceToNat, List.size_toArray, tyF, MM, bu0, ipure, kpure, tpure, sspure, kset, tset, ksnoc, tsnoc, Kind.av, Twist.sl, Twist.tr, Invar.av, stsize, stget, sttl, stapp, stext, tsspure, Model.sl, Model.tr, w]
      simp only [beq_iff_eq, bne_iff_ne, ne_eq, beq_eq_false_iff_ne, bne_eq_false_iff_eq, decide_eq_true_eq, decide_eq_false_iff_not, Bool.not_eq_true', Bool.not_eq_false', Int.not_lt, Int.not_le, Bool.and_eq_true, Bool.or_eq_true, Bool.and_eq_false_iff, Bool.or_eq_false_iff, Decidable.not_not] at w
      refine fin _ ?_
      simp only [reduceCtorEq, false_iff]
      intro q; have := q _ (mem_getD l (k + 1) 0 hlt); omega
    · simp -dsimp -implicitDefEqProofs (disch := first | omega | (simp only [lenr]; done) | (simp only [lenr]; omega)) only [↓amPre, amPost0, amPost1, amPost2, amPost3, ↓reduceIte, reduceCtorEq, Nat.reduceEqDiff, Nat.reduceBEq, Nat.reduceAdd, Nat.reduceLeDiff, Nat.reduceSub, Nat.reduceMul, Int.reduceToNat, List.size_toArray, tyF, MM, bu0, ipure, kpure, tpure, sspure, kset, tset, ksnoc, tsnoc, Kind.av, Twist.sl, Twist.tr, Invar.av, stsize, stget, sttl, stapp, stext, tsspure, Model.sl, Model.tr, w, f3, f0]
      simp only [beq_iff_eq, bne_iff_ne, ne_eq, beq_eq_false_iff_ne, bne_eq_false_iff_eq, decide_eq_true_eq, decide_eq_false_iff_not, Bool.not_eq_true', Bool.not_eq_false', Int.not_lt, Int.not_le, Bool.and_eq_true, Bool.or_eq_true, Bool.and_eq_false_iff, Bool.or_eq_false_iff, Decidable.not_not] at w
      repeat' (first | omega | rfl | exact i64c (by omega) | exact vic (by omega) | exact (mem_take_succ (d := 0) hlt).2 ⟨ek, w⟩ | apply And.intro)
  · simp -dsimp -implicitDefEqProofs (disch := first | omega | (simp only [lenr]; done) | (simp only [lenr]; omega)) only [↓amPre, amPost0, amPost1, amPost2, amPost3, ↓reduceIte, reduceCtorEq, Nat.reduceEqDiff, Nat.reduceBEq, Nat.reduceAdd, Nat.reduceLeDiff, Nat.reduceSub, Nat.reduceMul, Int.reduceToNat, List.size_toArray, tyF, MM, bu0, ipure, kpure, tpure, sspure, kset, tset, ksnoc, tsnoc, Kind.av, Twist.sl, Twist.tr, Invar.av, stsize, stget, sttl, stapp, stext, tsspure, Model.sl, Model.tr, f3, f0]
    refine fin _ ?_
    simp only [true_iff]
    rw [List.take_of_length_le (by omega)] at ek
    exact ek
theorem orb_min (p : List Int) (x : Nat) (hp : isPerm p) (hx : x < p.length) : ((orbI p x).all fun y => decide ((orbI p x).getD 0 0 ≤ y)) = minI p x := by
  have h0 : (orbI p x).getD 0 0 = (x : Int) := by
    rw [orbI_eq, range_map_get _ _ _ _ (by have := ((permF_of hp).per x hx).1; omega)]; rfl
  rw [Bool.eq_iff_iff, minI, minN_iff, h0]
  simp only [List.all_eq_true, decide_eq_true_eq, orbI, List.mem_map]
  constructor
  · intro q y hy; have := q (y : Int) ⟨y, hy, rfl⟩; omega
  · rintro q _ ⟨y, hy, rfl⟩; have := q y hy; omega
theorem sallCycles (p : List Int) (hp : isPerm p) : SpecAt Try.prog 236 [isl p] (sst (cycI p)) := by
  have hl20 := hp.1.2
  refine spec_of_awp (M := MM) (np := 1) (fz := false) mixed Try.func236 rfl rfl (by decide) rfl (Nat.le_refl _) (by decide +kernel) (.inl rfl) (by first | trivial | simp only [sigsOk_nil, sigsOk_some, sigsOk_none, sig_tr, sig_pt, sig_mt, sig_agg, List.map_cons, List.map_nil, sig1_tr, sig1_pt, sig1_v, and_self, true_and, List.length_map, List.length_set]) ?_
  simp -dsimp -implicitDefEqProofs (disch := first | omega | (simp only [lenr]; done) | (simp only [lenr]; omega)) only [↓amPre, amPost0, amPost1, amPost2, amPost3, ↓reduceIte, reduceCtorEq, Nat.reduceEqDiff, Nat.reduceBEq, Nat.reduceAdd, Nat.reduceLeDiff, Nat.reduceSub, Nat.reduceMul, Int.reduceToNat, List.size_toArray, tyF, MM, bu0, ipure, kpure, tpure, sspure, kset, tset, ksnoc, tsnoc, Kind.av, Twist.sl, Twist.tr, Invar.av, stsize, stget, sttl, stapp, stext, tsspure, Model.sl, Model.tr]
  refine awp_loopR 6 21 (.tr 1 []) (by simp -dsimp -implicitDefEqProofs (disch := first | omega | (simp only [lenr]; done) | (simp only [lenr]; omega)) only [↓amPre, amPost0, amPost1, amPost2, amPost3, ↓reduceIte, reduceCtorEq, Nat.reduceEqDiff, Nat.reduceBEq, Nat.reduceAdd, Nat.reduceLeDiff, Nat.reduceSub, Nat.reduceMul, Int.reduceToNat, List.size_toArray, tyF, MM, bu0, ipure, kpure, tpure, sspure, kset, tset, ksnoc, tsnoc, Kind.av, Twist.sl, Twist.tr, Invar.av, stsize, stget, sttl, stapp, stext, tsspure, Model.sl, Model.tr]) (by decide) (by decide) (by decide) (fun k st => k ≤ p.length ∧ st.fr 4 = .i64 k ∧ st.fr 0 = isl p ∧ st.fr 3 = .ref 21 [] 1 0 (cycK p k).length ∧ st.mem 21 = some (sst (cycK p k))) (p.length) ?_ ?_
  · simp -dsimp -implicitDefEqProofs (disch := first | omega | (simp only [lenr]; done) | (simp only [lenr]; omega)) only [↓amPre, amPost0, amPost1, amPost2, amPost3, ↓reduceIte, reduceCtorEq, Nat.reduceEqDiff, Nat.reduceBEq, Nat.reduceAdd, Nat.reduceLeDiff, Nat.reduceSub, Nat.reduceMul, Int.reduceToNat, List.size_toArray, tyF, MM, bu0, ipure, kpure, tpure, sspure, kset, tset, ksnoc, tsnoc, Kind.av, Twist.sl, Twist.tr, Invar.av, stsize, stget, sttl, stapp, stext, tsspure, Model.sl, Model.tr, ren_eq]
    simp [cycK]
  rintro k st _ ⟨hk, f4, f0, f3, m21⟩
  have hll := cycK_le p k
  have hfs := cycK_succ p k
  by_cases hlt : k < p.length
  · have ho := orbI_len p k
    have hper := (permF_of hp).per k hlt
    have hmn := orb_min p k hp hlt
    simp -dsimp -implicitDefEqProofs (disch := first | omega | (simp only [lenr]; done) | (simp only [lenr]; omega)) only [↓amPre, amPost0, amPost1, amPost2, amPost3, ↓reduceIte, reduceCtorEq, Nat.reduceEqDiff, Nat.reduceBEq, Nat.reduceAdd, Nat.reduceLeDiff, Nat.reduceSub, Nat.reduceMul, Int.reduceToNat, List.size_toArray, tyF, MM, bu0, ipure, kpure, tpure, sspure, kset, tset, ksnoc, tsnoc, Kind.av, Twist.sl, Twist.tr, Invar.av, stsize, stget, sttl, stapp, stext, tsspure, Model.sl, Model.tr, f4, f0, f3, m21]
    refine callP_of (scycleOf p hp k hlt) ?_
    simp -dsimp -implicitDefEqProofs (disch := first | omega | (simp only [lenr]; done) | (simp only [lenr]; omega)) only [↓amPre, amPost0, amPost1, amPost2, amPost3, ↓reduceIte, reduceCtorEq, Nat.reduceEqDiff, Nat.reduceBEq, Nat.reduceAdd, Nat.reduceLeDiff, Nat.reduceSub, Nat.reduceMul, Int.reduceToNat, List.size_toArray, tyF, MM, bu0, ipure, kpure, tpure, sspure, kset, tset, ksnoc, tsnoc, Kind.av, Twist.sl, Twist.tr, Invar.av, stsize, stget, sttl, stapp, stext, tsspure, Model.sl, Model.tr, f4, f0, f3, m21]
    refine callP_of (sisSmallest (orbI p k) (by omega) (by omega)) ?_
    cases hm : minI p k with
    | true =>
      have hs : cycK p k ++ [orbI p k] = cycK p (k + 1) := by rw [hfs, hm]; rfl
      have hs2 : (cycK p (k + 1)).length = (cycK p k).length + 1 := by rw [← hs]; simp
      simp -dsimp -implicitDefEqProofs (disch := first | omega | (simp only [lenr]; done) | (simp only [lenr]; omega)) only [↓amPre, amPost0, amPost1, amPost2, amPost3, ↓reduceIte, reduceCtorEq, Nat.reduceEqDiff, Nat.reduceBEq, Nat.reduceAdd, Nat.reduceLeDiff, Nat.reduceSub, Nat.reduceMul, Int.reduceToNat, List.size_toArray, tyF, MM, bu0, ipure, kpure, tpure, sspure, kset, tset, ksnoc, tsnoc, Kind.av, Twist.sl, Twist.tr, Invar.av, stsize, stget, sttl, stapp, stext, tsspure, Model.sl, Model.tr, f4, f0, f3, m21, hmn, hm, hs, hs2]
      repeat' (first | omega | rfl | exact i64c (by omega) | exact vic (by omega) | apply And.intro)
    | false =>
      have hs : cycK p (k + 1) = cycK p k := by rw [hfs, hm]; simp
      simp -dsimp -implicitDefEqProofs (disch := first | omega | (simp only [lenr]; done) | (simp only [lenr]; omega)) only [↓amPre, amPost0, amPost1, amPost2, amPost3, ↓reduceIte, reduceCtorEq, Nat.reduceEqDiff, Nat.reduceBEq, Nat.reduceAdd, Nat.reduceLeDiff, Nat.reduceSub, Nat.reduceMul, Int.reduceToNat, List.size_toArray, tyF, MM, bu0, ipure, kpure, tpure, sspure, kset, tset, ksnoc, tsnoc, Kind.av, Twist.sl, Twist.tr, Invar.av, stsize, stget, sttl, stapp, stext, tsspure, Model.sl, Model.tr, f4, f0, f3, m21, hmn, hm, hs]
      repeat' (first | omega | rfl | exact i64c (by omega) | exact vic (by omega) | apply And.intro)
  · have hke : k = p.length := by omega
    subst hke
    have : cycI p = cycK p p.length := rfl
    simp -dsimp -implicitDefEqProofs (disch := first | omega | (simp only [lenr]; done) | (simp only [lenr]; omega)) only [↓amPre, amPost0, amPost1, amPost2, amPost3, ↓reduceIte, reduceCtorEq, Nat.reduceEqDiff, Nat.reduceBEq, Nat.reduceAdd, Nat.reduceLeDiff, Nat.reduceSub, Nat.reduceMul, Int.reduceToNat, List.size_toArray, tyF, MM, bu0, ipure, kpure, tpure, sspure, kset, tset, ksnoc, tsnoc, Kind.av, Twist.sl, Twist.tr, Invar.av, stsize, stget, sttl, stapp, stext, tsspure, Model.sl, Model.tr, f4, f0, f3, m21, this]
theorem sSign (p : List Int) (hp : isPerm p) : SpecAt Try.prog 226 [isl p] (.i64 (sgnI p)) := by
  obtain ⟨h1, h2, h3⟩ := cyc_facts hp
  have hl20 := hp.1.2
  refine spec_of_awp (M := MM) (np := 1) (fz := true) mixed Try.func226 rfl rfl (by decide) rfl (Nat.le_refl _) (by decide +kernel) (.inr ⟨rfl, rfl⟩) trivial ?_
  simp -dsimp -implicitDefEqProofs (disch := first | omega | (simp only [lenr]; done) | (simp only [lenr]; omega)) only [↓amPre, amPost0, amPost1, amPost2, amPost3, ↓reduceIte, reduceCtorEq, Nat.reduceEqDiff, Nat.reduceBEq, Nat.reduceAdd, Nat.reduceLeDiff, Nat.reduceSub, Nat.reduceMul, Int.reduceToNat, List.size_toArray, tyF, MM, bu0, ipure, kpure, tpure, sspure, kset, tset, ksnoc, tsnoc, Kind.av, Twist.sl, Twist.tr, Invar.av, stsize, stget, sttl, stapp, stext, tsspure, Model.sl, Model.tr]
  refine callP_of (sIsPerm p (by omega)) ?_
  simp -dsimp -implicitDefEqProofs (disch := first | omega | (simp only [lenr]; done) | (simp only [lenr]; omega)) only [↓amPre, amPost0, amPost1, amPost2, amPost3, ↓reduceIte, reduceCtorEq, Nat.reduceEqDiff, Nat.reduceBEq, Nat.reduceAdd, Nat.reduceLeDiff, Nat.reduceSub, Nat.reduceMul, Int.reduceToNat, List.size_toArray, tyF, MM, bu0, ipure, kpure, tpure, sspure, kset, tset, ksnoc, tsnoc, Kind.av, Twist.sl, Twist.tr, Invar.av, stsize, stget, sttl, stapp, stext, tsspure, Model.sl, Model.tr, hp]
  refine callP_of (sallCycles p hp) ?_
  have hmod : ((p.length : Int) - (cycI p).length).tmod 2 = (((p.length - (cycI p).length) % 2 : Nat) : Int) := by
    rw [Int.tmod_eq_emod_of_nonneg (by omega)]; omega
  by_cases c : (p.length - (cycI p).length) % 2 = 1
  · have hs : sgnI p = -1 := if_pos c
    rw [c] at hmod
    simp -dsimp -implicitDefEqProofs (disch := first | omega | (simp only [lenr]; done) | (simp only [lenr]; omega)) only [↓amPre, amPost0, amPost1, amPost2, amPost3, ↓reduceIte, reduceCtorEq, Nat.reduceEqDiff, Nat.reduceBEq, Nat.reduceAdd, Nat.reduceLeDiff, Nat.reduceSub, Nat.reduceMul, Int.reduceToNat, List.size_toArray, tyF, MM, bu0, ipure, kpure, tpure, sspure, kset, tset, ksnoc, tsnoc, Kind.av, Twist.sl, Twist.tr, Invar.av, stsize, stget, sttl, stapp, stext, tsspure, Model.sl, Model.tr, hmod, hs]
  · have hs : sgnI p = 1 := if_neg c
    have c0 : (p.length - (cycI p).length) % 2 = 0 := by omega
    rw [c0] at hmod
    simp -dsimp -implicitDefEqProofs (disch := first | omega | (simp only [lenr]; done) | (simp only [lenr]; omega)) only [↓amPre, amPost0, amPost1, amPost2, amPost3, ↓reduceIte, reduceCtorEq, Nat.reduceEqDiff, Nat.reduceBEq, Nat.reduceAdd, Nat.reduceLeDiff, Nat.reduceSub, Nat.reduceMul, Int.reduceToNat, List.size_toArray, tyF, MM, bu0, ipure, kpure, tpure, sspure, kset, tset, ksnoc, tsnoc, Kind.av, Twist.sl, Twist.tr, Invar.av, stsize, stget, sttl, stapp, stext, tsspure, Model.sl, Model.tr, hmod, hs]
def longC (L : List (List Int)) : List (List Int) := L.filter fun l => decide (1 < l.length)
theorem longC_snoc (L : List (List Int)) (l : List Int) : longC (L ++ [l]) = if 1 < l.length then longC L ++ [l] else longC L := by
  unfold longC; rw [List.filter_append]; split <;> simp [List.filter_cons, *]
theorem longC_len (L : List (List Int)) : (longC L).length ≤ L.length := List.length_filter_le _ _
theorem icycles (p : List Int) (hp : isPerm p) : SpecAt Try.prog 184 [isl p] (sst (longC (cycI p))) := by
  have hl20 := hp.1.2
  have hF := permF_of hp
  refine spec_of_awp (M := MM) (np := 1) (fz := false) mixed Try.func184 rfl rfl (by decide) rfl (Nat.le_refl _) (by decide +kernel) (.inl rfl) (by first | trivial | simp only [sigsOk_nil, sigsOk_some, sigsOk_none, sig_tr, sig_pt, sig_mt, sig_agg, List.map_cons, List.map_nil, sig1_tr, sig1_pt, sig1_v, and_self, true_and, List.length_map, List.length_set]) ?_
  simp -dsimp -implicitDefEqProofs (disch := first | omega | (simp only [lenr]; done) | (simp only [lenr]; omega)) only [↓amPre, amPost0, amPost1, amPost2, amPost3, ↓reduceIte, reduceCtorEq, Nat.reduceEqDiff, Nat.reduceBEq, Nat.reduceAdd, Nat.reduceLeDiff, Nat.reduceSub, Nat.reduceMul, Int.reduceToNat, List.size_toArray, tyF, MM, bu0, ipure, kpure, tpure, sspure, kset, tset, ksnoc, tsnoc, Kind.av, Twist.sl, Twist.tr, Invar.av, stsize, stget, sttl, stapp, stext, tsspure, Model.sl, Model.tr, repB]
  refine awp_loopN 3 39 1 (by simp -dsimp -implicitDefEqProofs (disch := first | omega | (simp only [lenr]; done) | (simp only [lenr]; omega)) only [↓amPre, amPost0, amPost1, amPost2, amPost3, ↓reduceIte, reduceCtorEq, Nat.reduceEqDiff, Nat.reduceBEq, Nat.reduceAdd, Nat.reduceLeDiff, Nat.reduceSub, Nat.reduceMul, Int.reduceToNat, List.size_toArray, tyF, MM, bu0, ipure, kpure, tpure, sspure, kset, tset, ksnoc, tsnoc, Kind.av, Twist.sl, Twist.tr, Invar.av, stsize, stget, sttl, stapp, stext, tsspure, Model.sl, Model.tr]) (by decide) (fun i st => i ≤ p.length ∧ st.fr 13 = .i64 i ∧ st.fr 12 = .i64 p.length ∧ st.fr 0 = isl p ∧ st.fr 4 = .ref 10 [] 1 0 p.length ∧ st.fr 3 = .ref 39 [] 1 0 (longC (cycK p i)).length ∧ st.mem 10 = some (.tr 1 ((seenJ p i 0).map AV.bl)) ∧ st.mem 39 = some (sst (longC (cycK p i)))) (p.length) ?_ ?_
  · simp -dsimp -implicitDefEqProofs (disch := first | omega | (simp only [lenr]; done) | (simp only [lenr]; omega)) only [↓amPre, amPost0, amPost1, amPost2, amPost3, ↓reduceIte, reduceCtorEq, Nat.reduceEqDiff, Nat.reduceBEq, Nat.reduceAdd, Nat.reduceLeDiff, Nat.reduceSub, Nat.reduceMul, Int.reduceToNat, List.size_toArray, tyF, MM, bu0, ipure, kpure, tpure, sspure, kset, tset, ksnoc, tsnoc, Kind.av, Twist.sl, Twist.tr, Invar.av, stsize, stget, sttl, stapp, stext, tsspure, Model.sl, Model.tr, nilAs_eq, repB]
    simp [cycK, longC, seenJ_zero]
  rintro i st _ ⟨hi, f13, f12, f0, f4, f3, m10, m39⟩
  have hle1 := longC_len (cycK p i)
  have hle2 := cycK_le p i
  have hcs := cycK_succ p i
  generalize hL : longC (cycK p i) = L at hle1 f3 m39
  by_cases hlt : i < p.length
  · obtain ⟨q1, q2, q3, q4⟩ := hF.per i hlt
    have hsl := seenJ_len p i
    simp -dsimp -implicitDefEqProofs (disch := first | omega | (simp only [lenr]; done) | (simp only [lenr]; omega)) only [↓amPre, amPost0, amPost1, amPost2, amPost3, ↓reduceIte, reduceCtorEq, Nat.reduceEqDiff, Nat.reduceBEq, Nat.reduceAdd, Nat.reduceLeDiff, Nat.reduceSub, Nat.reduceMul, Int.reduceToNat, List.size_toArray, tyF, MM, bu0, ipure, kpure, tpure, sspure, kset, tset, ksnoc, tsnoc, Kind.av, Twist.sl, Twist.tr, Invar.av, stsize, stget, sttl, stapp, stext, tsspure, Model.sl, Model.tr, f13, f12, f0, f4, f3, m10, m39, hsl]
    cases hm : minI p i with
    | true =>
      refine awp_loopN 6 32 1 (by simp -dsimp -implicitDefEqProofs (disch := first | omega | (simp only [lenr]; done) | (simp only [lenr]; omega)) only [↓amPre, amPost0, amPost1, amPost2, amPost3, ↓reduceIte, reduceCtorEq, Nat.reduceEqDiff, Nat.reduceBEq, Nat.reduceAdd, Nat.reduceLeDiff, Nat.reduceSub, Nat.reduceMul, Int.reduceToNat, List.size_toArray, tyF, MM, bu0, ipure, kpure, tpure, sspure, kset, tset, ksnoc, tsnoc, Kind.av, Twist.sl, Twist.tr, Invar.av, stsize, stget, sttl, stapp, stext, tsspure, Model.sl, Model.tr, f13, f12, f0, f4, f3, m10, m39]) (by decide) (fun j st => j ≤ (perN p.length (fOf p) i) ∧ st.fr 13 = .i64 i ∧ st.fr 12 = .i64 p.length ∧ st.fr 0 = isl p ∧ st.fr 4 = .ref 10 [] 1 0 p.length ∧ st.fr 3 = .ref 39 [] 1 0 L.length ∧ st.fr 6 = .ref 32 [] 1 0 j ∧ st.fr 7 = .i64 (itN (fOf p) j i : Nat) ∧ st.mem 10 = some (.tr 1 ((seenJ p i j).map AV.bl)) ∧ st.mem 39 = some (sst L) ∧ st.mem 32 = some (itr (itL p i j))) ((perN p.length (fOf p) i)) ?_ ?_
      · simp -dsimp -implicitDefEqProofs (disch := first | omega | (simp only [lenr]; done) | (simp only [lenr]; omega)) only [↓amPre, amPost0, amPost1, amPost2, amPost3, ↓reduceIte, reduceCtorEq, Nat.reduceEqDiff, Nat.reduceBEq, Nat.reduceAdd, Nat.reduceLeDiff, Nat.reduceSub, Nat.reduceMul, Int.reduceToNat, List.size_toArray, tyF, MM, bu0, ipure, kpure, tpure, sspure, kset, tset, ksnoc, tsnoc, Kind.av, Twist.sl, Twist.tr, Invar.av, stsize, stget, sttl, stapp, stext, tsspure, Model.sl, Model.tr, nilAs_eq, f13, f12, f0, f4, f3, m10, m39]
        simp [itN, itL]
      rintro j st _ ⟨hj, f13, f12, f0, f4, f3, f6, f7, m10, m39, m32⟩
      have hlj := hF.itlt j i hlt
      have hn := p_it hp hlt j
      have hil := itL_len p i j
      have hs1 := seenJ_len p i j
      have hs2 := seenJ_len p i (j + 1)
      have hs3 := seenJ_len p (i + 1) 0
      by_cases hlt' : j < perN p.length (fOf p) i
      · have hfr := seen_fresh hp hlt hm hlt'
        have hst := seen_set hp hlt hlt'
        have hss := itL_succ p i j
        simp -dsimp -implicitDefEqProofs (disch := first | omega | (simp only [lenr]; done) | (simp only [lenr]; omega)) only [↓amPre, amPost0, amPost1, amPost2, amPost3, ↓reduceIte, reduceCtorEq, Nat.reduceEqDiff, Nat.reduceBEq, Nat.reduceAdd, Nat.reduceLeDiff, Nat.reduceSub, Nat.reduceMul, Int.reduceToNat, List.size_toArray, tyF, MM, bu0, ipure, kpure, tpure, sspure, kset, tset, ksnoc, tsnoc, Kind.av, Twist.sl, Twist.tr, Invar.av, stsize, stget, sttl, stapp, stext, tsspure, Model.sl, Model.tr, f13, f12, f0, f4, f3, f6, f7, m10, m39, m32, hsl, hfr, hst, hn, ← hss, hil]
        repeat' (first | omega | rfl | exact i64c (by omega) | exact vic (by omega) | apply And.intro)
      · have hje : j = perN p.length (fOf p) i := by omega
        have hend := seen_end hp hlt
        have hnx := seen_next_min hp hlt
        rw [hje, q3] at f7
        rw [← hje] at hend hnx
        rw [hnx] at hend
        rw [hm] at hcs
        simp only [if_true] at hcs
        have hls := longC_snoc (cycK p i) (orbI p i)
        rw [← hcs, hL, orbI_len, ← hje] at hls
        have hoi : itL p i j = orbI p i := by rw [orbI_itL, hje]
        by_cases c : 1 < j
        · rw [if_pos c] at hls
          have hll : (longC (cycK p (i + 1))).length = L.length + 1 := by rw [hls]; simp
          rw [hoi] at m32
          have hol := orbI_len p i
          rw [← hje] at hol
          simp -dsimp -implicitDefEqProofs (disch := first | omega | (simp only [lenr]; done) | (simp only [lenr]; omega)) only [↓amPre, amPost0, amPost1, amPost2, amPost3, ↓reduceIte, reduceCtorEq, Nat.reduceEqDiff, Nat.reduceBEq, Nat.reduceAdd, Nat.reduceLeDiff, Nat.reduceSub, Nat.reduceMul, Int.reduceToNat, List.size_toArray, tyF, MM, bu0, ipure, kpure, tpure, sspure, kset, tset, ksnoc, tsnoc, Kind.av, Twist.sl, Twist.tr, Invar.av, stsize, stget, sttl, stapp, stext, tsspure, Model.sl, Model.tr, f13, f12, f0, f4, f3, f6, f7, m10, m39, m32, hsl, hend, lt_true (show ((1:Int)) < (j : Int) by omega), hol, ← hls, hll, hnx]
          repeat' (first | omega | rfl | exact i64c (by omega) | exact vic (by omega) | apply And.intro)
        · rw [if_neg c] at hls
          simp -dsimp -implicitDefEqProofs (disch := first | omega | (simp only [lenr]; done) | (simp only [lenr]; omega)) only [↓amPre, amPost0, amPost1, amPost2, amPost3, ↓reduceIte, reduceCtorEq, Nat.reduceEqDiff, Nat.reduceBEq, Nat.reduceAdd, Nat.reduceLeDiff, Nat.reduceSub, Nat.reduceMul, Int.reduceToNat, List.size_toArray, tyF, MM, bu0, ipure, kpure, tpure, sspure, kset, tset, ksnoc, tsnoc, Kind.av, Twist.sl, Twist.tr, Invar.av, stsize, stget, sttl, stapp, stext, tsspure, Model.sl, Model.tr, f13, f12, f0, f4, f3, f6, f7, m10, m39, m32, hsl, hend, lt_false (show ((j:Int)) ≤ 1 by omega), hls, hnx]
          repeat' (first | omega | rfl | exact i64c (by omega) | exact vic (by omega) | apply And.intro)
    | false =>
      refine awp_loopN 6 32 1 (by simp -dsimp -implicitDefEqProofs (disch := first | omega | (simp only [lenr]; done) | (simp only [lenr]; omega)) only [↓amPre, amPost0, amPost1, amPost2, amPost3, ↓reduceIte, reduceCtorEq, Nat.reduceEqDiff, Nat.reduceBEq, Nat.reduceAdd, Nat.reduceLeDiff, Nat.reduceSub, Nat.reduceMul, Int.reduceToNat, List.size_toArray, tyF, MM, bu0, ipure, kpure, tpure, sspure, kset, tset, ksnoc, tsnoc, Kind.av, Twist.sl, Twist.tr, Invar.av, stsize, stget, sttl, stapp, stext, tsspure, Model.sl, Model.tr, f13, f12, f0, f4, f3, m10, m39]) (by decide) (fun j st => j ≤ 0 ∧ st.fr 13 = .i64 i ∧ st.fr 12 = .i64 p.length ∧ st.fr 0 = isl p ∧ st.fr 4 = .ref 10 [] 1 0 p.length ∧ st.fr 3 = .ref 39 [] 1 0 L.length ∧ st.fr 6 = .ref 32 [] 1 0 0 ∧ st.fr 7 = .i64 i ∧ st.mem 10 = some (.tr 1 ((seenJ p i 0).map AV.bl)) ∧ st.mem 39 = some (sst L) ∧ st.mem 32 = some (.tr 1 [])) (0) ?_ ?_
      · simp -dsimp -implicitDefEqProofs (disch := first | omega | (simp only [lenr]; done) | (simp only [lenr]; omega)) only [↓amPre, amPost0, amPost1, amPost2, amPost3, ↓reduceIte, reduceCtorEq, Nat.reduceEqDiff, Nat.reduceBEq, Nat.reduceAdd, Nat.reduceLeDiff, Nat.reduceSub, Nat.reduceMul, Int.reduceToNat, List.size_toArray, tyF, MM, bu0, ipure, kpure, tpure, sspure, kset, tset, ksnoc, tsnoc, Kind.av, Twist.sl, Twist.tr, Invar.av, stsize, stget, sttl, stapp, stext, tsspure, Model.sl, Model.tr, nilAs_eq, f13, f12, f0, f4, f3, m10, m39]
      rintro j st _ ⟨hj, f13, f12, f0, f4, f3, f6, f7, m10, m39, m32⟩
      have hold := seen_old hp hlt hm
      have hnx := seen_next_not hp hlt hm
      rw [hnx] at hold
      have hs3 := seenJ_len p (i + 1) 0
      rw [hm] at hcs
      simp only [Bool.false_eq_true, if_false, List.append_nil] at hcs
      simp -dsimp -implicitDefEqProofs (disch := first | omega | (simp only [lenr]; done) | (simp only [lenr]; omega)) only [↓amPre, amPost0, amPost1, amPost2, amPost3, ↓reduceIte, reduceCtorEq, Nat.reduceEqDiff, Nat.reduceBEq, Nat.reduceAdd, Nat.reduceLeDiff, Nat.reduceSub, Nat.reduceMul, Int.reduceToNat, List.size_toArray, tyF, MM, bu0, ipure, kpure, tpure, sspure, kset, tset, ksnoc, tsnoc, Kind.av, Twist.sl, Twist.tr, Invar.av, stsize, stget, sttl, stapp, stext, tsspure, Model.sl, Model.tr, f13, f12, f0, f4, f3, f6, f7, m10, m39, m32, hsl, hold, hnx, hcs, hL]
      repeat' (first | omega | rfl | exact i64c (by omega) | exact vic (by omega) | apply And.intro)
  · have hie : i = p.length := by omega
    subst hie
    have : longC (cycI p) = L := hL
    simp -dsimp -implicitDefEqProofs (disch := first | omega | (simp only [lenr]; done) | (simp only [lenr]; omega)) only [↓amPre, amPost0, amPost1, amPost2, amPost3, ↓reduceIte, reduceCtorEq, Nat.reduceEqDiff, Nat.reduceBEq, Nat.reduceAdd, Nat.reduceLeDiff, Nat.reduceSub, Nat.reduceMul, Int.reduceToNat, List.size_toArray, tyF, MM, bu0, ipure, kpure, tpure, sspure, kset, tset, ksnoc, tsnoc, Kind.av, Twist.sl, Twist.tr, Invar.av, stsize, stget, sttl, stapp, stext, tsspure, Model.sl, Model.tr, f13, f12, f0, f4, f3, m10, m39, this]
theorem isign (p : List Int) (hp : isPerm p) : SpecAt Try.prog 237 [isl p] (.i64 (sgnI p)) := by
  obtain ⟨h1, h2, h3⟩ := cyc_facts hp
  have hl20 := hp.1.2
  have hle := longC_len (cycI p)
  have hb : ∀ l ∈ longC (cycI p), l.length ≤ 20 := fun l hl => by have := h2 l (List.mem_filter.1 hl).1; omega
  have he : ((longC (cycI p)).filter fun l => l.length % 2 == 0).length = ((cycI p).filter fun l => l.length % 2 == 0).length := by
    unfold longC
    rw [List.filter_filter]
    congr 1
    apply List.filter_congr
    intro l hl
    have := (h2 l hl).1
    by_cases c : l.length % 2 = 0
    · have : 1 < l.length := by omega
      simp [c, this]
    · simp [c]
  have hsg : sgnI p = if (((longC (cycI p)).filter fun l => l.length % 2 == 0).length) % 2 = 1 then -1 else 1 := by rw [he, h3, sgnI]
  generalize hL : longC (cycI p) = L at hle hb he hsg
  have hev : ∀ k, ((L.take k).filter fun l => l.length % 2 == 0).length ≤ k := fun k => by
    have a1 := List.length_filter_le (fun l : List Int => l.length % 2 == 0) (L.take k)
    have a2 : (L.take k).length ≤ k := by simp; omega
    omega
  refine spec_of_awp (M := MM) (np := 1) (fz := true) mixed Try.func237 rfl rfl (by decide) rfl (Nat.le_refl _) (by decide +kernel) (.inr ⟨rfl, rfl⟩) trivial ?_
  simp -dsimp -implicitDefEqProofs (disch := first | omega | (simp only [lenr]; done) | (simp only [lenr]; omega)) only [↓amPre, amPost0, amPost1, amPost2, amPost3, ↓reduceIte, reduceCtorEq, Nat.reduceEqDiff, Nat.reduceBEq, Nat.reduceAdd, Nat.reduceLeDiff, Nat.reduceSub, Nat.reduceMul, Int.reduceToNat, List.size_toArray, tyF, MM, bu0, ipure, kpure, tpure, sspure, kset, tset, ksnoc, tsnoc, Kind.av, Twist.sl, Twist.tr, Invar.av, stsize, stget, sttl, stapp, stext, tsspure, Model.sl, Model.tr]
  refine callP_of (icycles p hp) ?_
  simp -dsimp -implicitDefEqProofs (disch := first | omega | (simp only [lenr]; done) | (simp only [lenr]; omega)) only [↓amPre, amPost0, amPost1, amPost2, amPost3, ↓reduceIte, reduceCtorEq, Nat.reduceEqDiff, Nat.reduceBEq, Nat.reduceAdd, Nat.reduceLeDiff, Nat.reduceSub, Nat.reduceMul, Int.reduceToNat, List.size_toArray, tyF, MM, bu0, ipure, kpure, tpure, sspure, kset, tset, ksnoc, tsnoc, Kind.av, Twist.sl, Twist.tr, Invar.av, stsize, stget, sttl, stapp, stext, tsspure, Model.sl, Model.tr, hL, ssfz]
  refine awp_loop (fun k st => k ≤ L.length ∧ st.fr 9 = .i64 k ∧ st.fr 8 = .i64 L.length ∧ st.fr 7 = .ref 7 [] 1 0 L.length ∧ st.fr 3 = .i64 (if (((L.take k).filter fun l => l.length % 2 == 0).length) % 2 = 1 then -1 else 1) ∧ st.mem 7 = some (sst L)) (L.length) ?_ ?_
  · simp only [List.take_zero, List.filter_nil]
    simp -dsimp -implicitDefEqProofs (disch := first | omega | (simp only [lenr]; done) | (simp only [lenr]; omega)) only [↓amPre, amPost0, amPost1, amPost2, amPost3, ↓reduceIte, reduceCtorEq, Nat.reduceEqDiff, Nat.reduceBEq, Nat.reduceAdd, Nat.reduceLeDiff, Nat.reduceSub, Nat.reduceMul, Int.reduceToNat, List.size_toArray, tyF, MM, bu0, ipure, kpure, tpure, sspure, kset, tset, ksnoc, tsnoc, Kind.av, Twist.sl, Twist.tr, Invar.av, stsize, stget, sttl, stapp, stext, tsspure, Model.sl, Model.tr]
    repeat' (first | omega | rfl | exact i64c (by omega) | exact vic (by omega) | apply And.intro)
  rintro k st _ ⟨hk, f9, f8, f7, f3, m7⟩
  by_cases hlt : k < L.length
  · have hts := take_succ_eq L k default hlt
    have hlb := hb _ (mem_getD L k default hlt)
    have hmod : (((L.getD k default).length : Int)).tmod 2 = (((L.getD k default).length % 2 : Nat) : Int) := by
      rw [Int.tmod_eq_emod_of_nonneg (by omega)]; omega
    have hfl : ((L.take (k + 1)).filter fun l => l.length % 2 == 0).length = ((L.take k).filter fun l => l.length % 2 == 0).length + if (L.getD k default).length % 2 = 0 then 1 else 0 := by
      rw [hts, List.filter_append, List.length_append]; congr 1
      generalize L.getD k default = x
      by_cases c : x.length % 2 = 0 <;> simp [List.filter_cons, c]
    by_cases c : (L.getD k default).length % 2 = 0
    · rw [c] at hmod
      rw [if_pos c] at hfl
      by_cases d : (((L.take k).filter fun l => l.length % 2 == 0).length) % 2 = 1
      · have d2 : ¬ ((((L.take k).filter fun l => l.length % 2 == 0).length + 1) % 2 = 1) := by omega
        rw [if_pos d] at f3
        simp -dsimp -implicitDefEqProofs (disch := first | omega | (simp only [lenr]; done) | (simp only [lenr]; omega)) only [↓amPre, amPost0, amPost1, amPost2, amPost3, ↓reduceIte, reduceCtorEq, Nat.reduceEqDiff, Nat.reduceBEq, Nat.reduceAdd, Nat.reduceLeDiff, Nat.reduceSub, Nat.reduceMul, Int.reduceToNat, List.size_toArray, tyF, MM, bu0, ipure, kpure, tpure, sspure, kset, tset, ksnoc, tsnoc, Kind.av, Twist.sl, Twist.tr, Invar.av, stsize, stget, sttl, stapp, stext, tsspure, Model.sl, Model.tr, f9, f8, f7, f3, m7, hmod, hfl, d2]
        repeat' (first | omega | rfl | exact i64c (by omega) | exact vic (by omega) | apply And.intro)
      · have d2 : ((((L.take k).filter fun l => l.length % 2 == 0).length + 1) % 2 = 1) := by omega
        rw [if_neg d] at f3
        simp -dsimp -implicitDefEqProofs (disch := first | omega | (simp only [lenr]; done) | (simp only [lenr]; omega)) only [↓amPre, amPost0, amPost1, amPost2, amPost3, ↓reduceIte, reduceCtorEq, Nat.reduceEqDiff, Nat.reduceBEq, Nat.reduceAdd, Nat.reduceLeDiff, Nat.reduceSub, Nat.reduceMul, Int.reduceToNat, List.size_toArray, tyF, MM, bu0, ipure, kpure, tpure, sspure, kset, tset, ksnoc, tsnoc, Kind.av, Twist.sl, Twist.tr, Invar.av, stsize, stget, sttl, stapp, stext, tsspure, Model.sl, Model.tr, f9, f8, f7, f3, m7, hmod, hfl, d2]
        repeat' (first | omega | rfl | exact i64c (by omega) | exact vic (by omega) | apply And.intro)
    · have c1 : (L.getD k default).length % 2 = 1 := by omega
      rw [c1] at hmod
      rw [if_neg c, Nat.add_zero] at hfl
      simp -dsimp -implicitDefEqProofs (disch := first | omega | (simp only [lenr]; done) | (simp only [lenr]; omega)) only [↓amPre, amPost0, amPost1, amPost2, amPost3, ↓reduceIte, reduceCtorEq, Nat.reduceEqDiff, Nat.reduceBEq, Nat.reduceAdd, Nat.reduceLeDiff, Nat.reduceSub, Nat.reduceMul, Int.reduceToNat, List.size_toArray, tyF, MM, bu0, ipure, kpure, tpure, sspure, kset, tset, ksnoc, tsnoc, Kind.av, Twist.sl, Twist.tr, Invar.av, stsize, stget, sttl, stapp, stext, tsspure, Model.sl, Model.tr, f9, f8, f7, f3, m7, hmod, hfl]
      repeat' (first | omega | rfl | exact i64c (by omega) | exact vic (by omega) | apply And.intro)
  · have hke : k = L.length := by omega
    subst hke
    rw [List.take_length] at f3
    simp -dsimp -implicitDefEqProofs (disch := first | omega | (simp only [lenr]; done) | (simp only [lenr]; omega)) only [↓amPre, amPost0, amPost1, amPost2, amPost3, ↓reduceIte, reduceCtorEq, Nat.reduceEqDiff, Nat.reduceBEq, Nat.reduceAdd, Nat.reduceLeDiff, Nat.reduceSub, Nat.reduceMul, Int.reduceToNat, List.size_toArray, tyF, MM, bu0, ipure, kpure, tpure, sspure, kset, tset, ksnoc, tsnoc, Kind.av, Twist.sl, Twist.tr, Invar.av, stsize, stget, sttl, stapp, stext, tsspure, Model.sl, Model.tr, f9, f8, f7, f3, m7, hsg]
end Go.AM

/-
  CONTRACTS of functions of the program, and what they compute, by content.
-/
import Derived.Test.YtbhaeaehgmpfhaaCU11
set_option linter.unusedVariables false
set_option linter.unusedSimpArgs false
set_option maxRecDepth 8000
namespace Go.AM
open Go.Proofs
theorem ipiecesToPerm (ks : List Kind) (s : List Twist) (ps : psOk ks s) : SpecAt Try.prog 96 [ksl ks, tsl s] (itr (permOf ks s)) := by
  have hl3 := ps.1.1.2
  have hsl := ps.2.1
  refine spec_of_awp (M := MM) (np := 2) (fz := false) mixed Try.func96 rfl rfl (by decide) rfl (Nat.le_refl _) (by decide +kernel) (.inl rfl) (by first | trivial | simp only [sigsOk_nil, sigsOk_some, sigsOk_none, sig_tr, sig_pt, sig_mt, sig_agg, List.map_cons, List.map_nil, sig1_tr, sig1_pt, sig1_v, and_self, true_and, List.length_map, List.length_set]) ?_
  simp -dsimp -implicitDefEqProofs (disch := first | omega | (simp only [lenr]; done) | (simp only [lenr]; omega)) only [↓amPre, amAll, ↓reduceIte, reduceCtorEq, Nat.reduceEqDiff, Nat.reduceBEq, Nat.reduceAdd, Nat.reduceLeDiff, Nat.reduceSub, Nat.reduceMul, Int.reduceToNat, List.size_toArray, tyF, MM, bu0, ipure, kpure, tpure, sspure, kset, tset, ksnoc, tsnoc, Kind.av, Twist.sl, Twist.tr, Invar.av, stsize, stget, sttl, stapp, stext, tsspure, Model.sl, Model.tr]
  refine awp_loopN 5 59 1 (by simp -dsimp -implicitDefEqProofs (disch := first | omega | (simp only [lenr]; done) | (simp only [lenr]; omega)) only [↓amPre, amAll, ↓reduceIte, reduceCtorEq, Nat.reduceEqDiff, Nat.reduceBEq, Nat.reduceAdd, Nat.reduceLeDiff, Nat.reduceSub, Nat.reduceMul, Int.reduceToNat, List.size_toArray, tyF, MM, bu0, ipure, kpure, tpure, sspure, kset, tset, ksnoc, tsnoc, Kind.av, Twist.sl, Twist.tr, Invar.av, stsize, stget, sttl, stapp, stext, tsspure, Model.sl, Model.tr]) (by decide) (fun k st => k ≤ ks.length ∧ st.fr 14 = .i64 k ∧ st.fr 13 = .i64 ks.length ∧ st.fr 12 = ksl ks ∧ st.fr 1 = tsl s ∧ st.fr 5 = .ref 59 [] 1 0 (permL ks s k).length ∧ st.mem 59 = some (itr (permL ks s k))) (ks.length) ?_ ?_
  · simp -dsimp -implicitDefEqProofs (disch := first | omega | (simp only [lenr]; done) | (simp only [lenr]; omega)) only [↓amPre, amAll, ↓reduceIte, reduceCtorEq, Nat.reduceEqDiff, Nat.reduceBEq, Nat.reduceAdd, Nat.reduceLeDiff, Nat.reduceSub, Nat.reduceMul, Int.reduceToNat, List.size_toArray, tyF, MM, bu0, ipure, kpure, tpure, sspure, kset, tset, ksnoc, tsnoc, Kind.av, Twist.sl, Twist.tr, Invar.av, stsize, stget, sttl, stapp, stext, tsspure, Model.sl, Model.tr, nilAs_eq]
    simp [permL]
  rintro k st _ ⟨hk, f14, f13, f12, f1, f5, m59⟩
  have hlen := permL_le (s := s) ps.1 hk
  by_cases hlt : k < ks.length
  · have hk2 := ps.1.2.1 _ (mem_getD ks k default hlt)
    have ta := tw_get ps hlt
    obtain ⟨c, o, hc, ho, la, la', c1, c2, o1, o2⟩ := twOk_facts ta hk2
    have hstep : permL ks s (k + 1) = permL ks s k ++ rowL (permL ks s k).length o (s.getD k default) c := by rw [permL, hc, ho, Int.toNat_natCast]
    generalize hA : s.getD k default = A at ta la la' hstep
    generalize hb : permL ks s k = B at hlen hstep f5 m59
    simp -dsimp -implicitDefEqProofs (disch := first | omega | (simp only [lenr]; done) | (simp only [lenr]; omega)) only [↓amPre, amAll, ↓reduceIte, reduceCtorEq, Nat.reduceEqDiff, Nat.reduceBEq, Nat.reduceAdd, Nat.reduceLeDiff, Nat.reduceSub, Nat.reduceMul, Int.reduceToNat, List.size_toArray, tyF, MM, bu0, ipure, kpure, tpure, sspure, kset, tset, ksnoc, tsnoc, Kind.av, Twist.sl, Twist.tr, Invar.av, stsize, stget, sttl, stapp, stext, tsspure, Model.sl, Model.tr, f14, f13, f12, f1, f5, m59, hA, hc, ho]
    refine callP_of (lenI _) ?_
    simp -dsimp -implicitDefEqProofs (disch := first | omega | (simp only [lenr]; done) | (simp only [lenr]; omega)) only [↓amPre, amAll, ↓reduceIte, reduceCtorEq, Nat.reduceEqDiff, Nat.reduceBEq, Nat.reduceAdd, Nat.reduceLeDiff, Nat.reduceSub, Nat.reduceMul, Int.reduceToNat, List.size_toArray, tyF, MM, bu0, ipure, kpure, tpure, sspure, kset, tset, ksnoc, tsnoc, Kind.av, Twist.sl, Twist.tr, Invar.av, stsize, stget, sttl, stapp, stext, tsspure, Model.sl, Model.tr, f14, f13, f12, f1, f5, m59, hA, hc, ho]
    refine awp_loop (fun i st => i ≤ c ∧ st.fr 27 = .i64 i ∧ st.fr 26 = .i64 c ∧ st.fr 25 = isl A.to ∧ st.fr 6 = .i64 k ∧ st.fr 7 = .loc 7 [] 0 0 ∧ st.fr 8 = .i64 B.length ∧ st.fr 14 = .i64 k ∧ st.fr 13 = .i64 ks.length ∧ st.fr 12 = ksl ks ∧ st.fr 1 = tsl s ∧ st.fr 5 = .ref 59 [] 1 0 (B ++ rowL B.length o A i).length ∧ st.mem 59 = some (itr (B ++ rowL B.length o A i)) ∧ st.mem 7 = some (.pt 2 (.agg [.i64 c, .i64 o]))) (c) ?_ ?_
    · simp -dsimp -implicitDefEqProofs (disch := first | omega | (simp only [lenr]; done) | (simp only [lenr]; omega)) only [↓amPre, amAll, ↓reduceIte, reduceCtorEq, Nat.reduceEqDiff, Nat.reduceBEq, Nat.reduceAdd, Nat.reduceLeDiff, Nat.reduceSub, Nat.reduceMul, Int.reduceToNat, List.size_toArray, tyF, MM, bu0, ipure, kpure, tpure, sspure, kset, tset, ksnoc, tsnoc, Kind.av, Twist.sl, Twist.tr, Invar.av, stsize, stget, sttl, stapp, stext, tsspure, Model.sl, Model.tr, f14, f13, f12, f1, f5, m59, rowL, la]
      simp
    rintro i st _ ⟨hi, f27, f26, f25, f6, f7, f8, f14, f13, f12, f1, f5, m59, m7⟩
    have hrl := rowL_len B.length o A i
    rw [Int.toNat_natCast] at hrl
    have hio := natmul_bound (show i ≤ 20 by omega) o2
    by_cases hlt' : i < c
    · have hx := to_get ta (show i < A.to.length by omega)
      have hy := by_get ta (show i < A.by'.length by omega)
      have hxo := prod_bound hx.1 (show A.to.getD i 0 ≤ 20 by omega) (show (0:Int) ≤ o by omega) (by omega)
      simp -dsimp -implicitDefEqProofs (disch := first | omega | (simp only [lenr]; done) | (simp only [lenr]; omega)) only [↓amPre, amAll, ↓reduceIte, reduceCtorEq, Nat.reduceEqDiff, Nat.reduceBEq, Nat.reduceAdd, Nat.reduceLeDiff, Nat.reduceSub, Nat.reduceMul, Int.reduceToNat, List.size_toArray, tyF, MM, bu0, ipure, kpure, tpure, sspure, kset, tset, ksnoc, tsnoc, Kind.av, Twist.sl, Twist.tr, Invar.av, stsize, stget, sttl, stapp, stext, tsspure, Model.sl, Model.tr, f27, f26, f25, f6, f7, f8, f14, f13, f12, f1, f5, m59, m7]
      refine awp_loop (fun j st => j ≤ o ∧ st.fr 34 = .i64 j ∧ st.fr 33 = .i64 o ∧ st.fr 9 = .i64 i ∧ st.fr 10 = .i64 (A.to.getD i 0) ∧ st.fr 27 = .i64 i ∧ st.fr 26 = .i64 c ∧ st.fr 25 = isl A.to ∧ st.fr 6 = .i64 k ∧ st.fr 7 = .loc 7 [] 0 0 ∧ st.fr 8 = .i64 B.length ∧ st.fr 14 = .i64 k ∧ st.fr 13 = .i64 ks.length ∧ st.fr 12 = ksl ks ∧ st.fr 1 = tsl s ∧ st.fr 5 = .ref 59 [] 1 0 (B ++ rowL B.length o A i ++ cellL B.length o (A.to.getD i 0) (A.by'.getD i 0) j).length ∧ st.mem 59 = some (itr (B ++ rowL B.length o A i ++ cellL B.length o (A.to.getD i 0) (A.by'.getD i 0) j)) ∧ st.mem 7 = some (.pt 2 (.agg [.i64 c, .i64 o]))) (o) ?_ ?_
      · simp -dsimp -implicitDefEqProofs (disch := first | omega | (simp only [lenr]; done) | (simp only [lenr]; omega)) only [↓amPre, amAll, ↓reduceIte, reduceCtorEq, Nat.reduceEqDiff, Nat.reduceBEq, Nat.reduceAdd, Nat.reduceLeDiff, Nat.reduceSub, Nat.reduceMul, Int.reduceToNat, List.size_toArray, tyF, MM, bu0, ipure, kpure, tpure, sspure, kset, tset, ksnoc, tsnoc, Kind.av, Twist.sl, Twist.tr, Invar.av, stsize, stget, sttl, stapp, stext, tsspure, Model.sl, Model.tr, f27, f26, f25, f6, f7, f8, f14, f13, f12, f1, f5, m59, m7, cellL, hrl]
        simp
      rintro j st _ ⟨hj, f34, f33, f9, f10, f27, f26, f25, f6, f7, f8, f14, f13, f12, f1, f5, m59, m7⟩
      have hcl := cellL_len B.length o (A.to.getD i 0) (A.by'.getD i 0) j
      have hll : (B ++ rowL B.length o A i ++ cellL B.length o (A.to.getD i 0) (A.by'.getD i 0) j).length = B.length + i * o + j := by simp only [List.length_append, hrl, hcl]
      by_cases hlt'' : j < o
      · have hcs := cellL_succ B.length o (A.to.getD i 0) (A.by'.getD i 0) j
        have hm1 := Int.tmod_nonneg (o : Int) (show (0:Int) ≤ j + A.by'.getD i 0 by omega)
        have hm2 := Int.tmod_lt_of_pos (j + A.by'.getD i 0) (show (0:Int) < o by omega)
        have hll2 : (B ++ rowL B.length o A i ++ cellL B.length o (A.to.getD i 0) (A.by'.getD i 0) (j + 1)).length = B.length + i * o + j + 1 := by simp only [List.length_append, hrl, cellL_len]; omega
        rw [hll] at f5
        have happ : B ++ rowL B.length o A i ++ cellL B.length o (A.to.getD i 0) (A.by'.getD i 0) j ++ [(B.length : Int) + A.to.getD i 0 * o + ((j : Int) + A.by'.getD i 0).tmod o] = B ++ rowL B.length o A i ++ cellL B.length o (A.to.getD i 0) (A.by'.getD i 0) (j + 1) := by rw [hcs]; simp only [List.append_assoc]
        simp -dsimp -implicitDefEqProofs (disch := first | omega | (simp only [lenr]; done) | (simp only [lenr]; omega)) only [↓amPre, amAll, ↓reduceIte, reduceCtorEq, Nat.reduceEqDiff, Nat.reduceBEq, Nat.reduceAdd, Nat.reduceLeDiff, Nat.reduceSub, Nat.reduceMul, Int.reduceToNat, List.size_toArray, tyF, MM, bu0, ipure, kpure, tpure, sspure, kset, tset, ksnoc, tsnoc, Kind.av, Twist.sl, Twist.tr, Invar.av, stsize, stget, sttl, stapp, stext, tsspure, Model.sl, Model.tr, f34, f33, f9, f10, f27, f26, f25, f6, f7, f8, f14, f13, f12, f1, f5, m59, m7, hA, hll, hll2, happ]
        repeat' (first | omega | rfl | exact i64c (by omega) | exact vic (by omega) | apply And.intro)
      · have hje : j = o := by omega
        subst hje
        have hrs : rowL B.length j A (i + 1) = rowL B.length j A i ++ cellL B.length j (A.to.getD i 0) (A.by'.getD i 0) j := by rw [rowL, Int.toNat_natCast]
        rw [List.append_assoc, ← hrs] at f5 m59
        simp -dsimp -implicitDefEqProofs (disch := first | omega | (simp only [lenr]; done) | (simp only [lenr]; omega)) only [↓amPre, amAll, ↓reduceIte, reduceCtorEq, Nat.reduceEqDiff, Nat.reduceBEq, Nat.reduceAdd, Nat.reduceLeDiff, Nat.reduceSub, Nat.reduceMul, Int.reduceToNat, List.size_toArray, tyF, MM, bu0, ipure, kpure, tpure, sspure, kset, tset, ksnoc, tsnoc, Kind.av, Twist.sl, Twist.tr, Invar.av, stsize, stget, sttl, stapp, stext, tsspure, Model.sl, Model.tr, f34, f33, f9, f10, f27, f26, f25, f6, f7, f8, f14, f13, f12, f1, f5, m59, m7]
        repeat' (first | omega | rfl | exact i64c (by omega) | exact vic (by omega) | apply And.intro)
    · have hie : i = c := by omega
      subst hie
      rw [← hstep] at f5 m59
      simp -dsimp -implicitDefEqProofs (disch := first | omega | (simp only [lenr]; done) | (simp only [lenr]; omega)) only [↓amPre, amAll, ↓reduceIte, reduceCtorEq, Nat.reduceEqDiff, Nat.reduceBEq, Nat.reduceAdd, Nat.reduceLeDiff, Nat.reduceSub, Nat.reduceMul, Int.reduceToNat, List.size_toArray, tyF, MM, bu0, ipure, kpure, tpure, sspure, kset, tset, ksnoc, tsnoc, Kind.av, Twist.sl, Twist.tr, Invar.av, stsize, stget, sttl, stapp, stext, tsspure, Model.sl, Model.tr, f27, f26, f25, f6, f7, f8, f14, f13, f12, f1, f5, m59, m7]
      repeat' (first | omega | rfl | exact i64c (by omega) | exact vic (by omega) | apply And.intro)
  · have hke : k = ks.length := by omega
    subst hke
    simp -dsimp -implicitDefEqProofs (disch := first | omega | (simp only [lenr]; done) | (simp only [lenr]; omega)) only [↓amPre, amAll, ↓reduceIte, reduceCtorEq, Nat.reduceEqDiff, Nat.reduceBEq, Nat.reduceAdd, Nat.reduceLeDiff, Nat.reduceSub, Nat.reduceMul, Int.reduceToNat, List.size_toArray, tyF, MM, bu0, ipure, kpure, tpure, sspure, kset, tset, ksnoc, tsnoc, Kind.av, Twist.sl, Twist.tr, Invar.av, stsize, stget, sttl, stapp, stext, tsspure, Model.sl, Model.tr, f14, f13, f12, f1, f5, m59]
    rfl
def permR (ks : List Kind) (s : List Twist) : List Int := if psOk ks s then permOf ks s else []
theorem permOf_le {ks : List Kind} {s : List Twist} (ps : psOk ks s) : (permOf ks s).length ≤ 20 := permL_le ps.1 (Nat.le_refl _)
theorem iPiecesToPerm (ks : List Kind) (s : List Twist) (h1 : ks.length ≤ 1099511627776) (ha : smallT s) : SpecAt Try.prog 31 [ksl ks, tsl s] (.tup [itr (permR ks s), .bl (decide (psOk ks s))]) := by
  refine spec_of_awp (M := MM) (np := 2) (fz := false) mixed Try.func31 rfl rfl (by decide) rfl (Nat.le_refl _) (by decide +kernel) (.inl rfl) (by first | trivial | simp only [sigsOk_nil, sigsOk_some, sigsOk_none, sig_tr, sig_pt, sig_mt, sig_agg, List.map_cons, List.map_nil, sig1_tr, sig1_pt, sig1_v, and_self, true_and, List.length_map, List.length_set]) ?_
  simp -dsimp -implicitDefEqProofs (disch := first | omega | (simp only [lenr]; done) | (simp only [lenr]; omega)) only [↓amPre, amAll, ↓reduceIte, reduceCtorEq, Nat.reduceEqDiff, Nat.reduceBEq, Nat.reduceAdd, Nat.reduceLeDiff, Nat.reduceSub, Nat.reduceMul, Int.reduceToNat, List.size_toArray, tyF, MM, bu0, ipure, kpure, tpure, sspure, kset, tset, ksnoc, tsnoc, Kind.av, Twist.sl, Twist.tr, Invar.av, stsize, stget, sttl, stapp, stext, tsspure, Model.sl, Model.tr]
  refine callP_of (iIsPieceState ks s h1 ha.1 ha.2) ?_
  by_cases pa : psOk ks s
  · have hR : permR ks s = permOf ks s := if_pos pa
    simp -dsimp -implicitDefEqProofs (disch := first | omega | (simp only [lenr]; done) | (simp only [lenr]; omega)) only [↓amPre, amAll, ↓reduceIte, reduceCtorEq, Nat.reduceEqDiff, Nat.reduceBEq, Nat.reduceAdd, Nat.reduceLeDiff, Nat.reduceSub, Nat.reduceMul, Int.reduceToNat, List.size_toArray, tyF, MM, bu0, ipure, kpure, tpure, sspure, kset, tset, ksnoc, tsnoc, Kind.av, Twist.sl, Twist.tr, Invar.av, stsize, stget, sttl, stapp, stext, tsspure, Model.sl, Model.tr, pa]
    refine callP_of (ipiecesToPerm ks s pa) ?_
    simp -dsimp -implicitDefEqProofs (disch := first | omega | (simp only [lenr]; done) | (simp only [lenr]; omega)) only [↓amPre, amAll, ↓reduceIte, reduceCtorEq, Nat.reduceEqDiff, Nat.reduceBEq, Nat.reduceAdd, Nat.reduceLeDiff, Nat.reduceSub, Nat.reduceMul, Int.reduceToNat, List.size_toArray, tyF, MM, bu0, ipure, kpure, tpure, sspure, kset, tset, ksnoc, tsnoc, Kind.av, Twist.sl, Twist.tr, Invar.av, stsize, stget, sttl, stapp, stext, tsspure, Model.sl, Model.tr, hR, pa]
  · have hR : permR ks s = [] := if_neg pa
    simp -dsimp -implicitDefEqProofs (disch := first | omega | (simp only [lenr]; done) | (simp only [lenr]; omega)) only [↓amPre, amAll, ↓reduceIte, reduceCtorEq, Nat.reduceEqDiff, Nat.reduceBEq, Nat.reduceAdd, Nat.reduceLeDiff, Nat.reduceSub, Nat.reduceMul, Int.reduceToNat, List.size_toArray, tyF, MM, bu0, ipure, kpure, tpure, sspure, kset, tset, ksnoc, tsnoc, Kind.av, Twist.sl, Twist.tr, Invar.av, stsize, stget, sttl, stapp, stext, tsspure, Model.sl, Model.tr, pa, hR]
end Go.AM

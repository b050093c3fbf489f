/-
  CONTRACTS of functions of the program, and what they compute, by content.
-/
import Derived.Test.YtjlnccjhgngnoaaCU6
import Derived.Test.YtjlnccjhgngnoaaCP3
import Derived.Test.YtjlnccjhgngnoaaCE0
set_option linter.unusedVariables false
set_option linter.unusedSimpArgs false
set_option maxRecDepth 8000
namespace Go.AM
open Go.Proofs
theorem repl_len (n : Nat) (x : Int) : (List.replicate n x).length = n := by simp
theorem iidentity (n : Nat) (hn : n ≤ 1099511627776) : SpecAt Try.prog 75 [.i64 n] (itr (runI 0 n)) := by
  refine spec_of_awp (M := MM) (np := 1) (fz := false) mixed Try.func75 rfl rfl (by decide) rfl (Nat.le_refl _) (by decide +kernel) (.inl rfl) (by first | trivial | simp only [sigsOk_nil, sigsOk_some, sigsOk_none, sig_tr, sig_pt, sig_mt, sig_agg, List.map_cons, List.map_nil, sig1_tr, sig1_pt, sig1_v, and_self, true_and, List.length_map, List.length_set]) ?_
  have hr := runI_len 0 n
  simp -dsimp -implicitDefEqProofs (disch := first | omega | (simp only [lenr]; done) | (simp only [lenr]; omega)) only [↓amPre, amPost0, amPost1, amPost2, amPost3, ↓reduceIte, reduceCtorEq, Nat.reduceEqDiff, Nat.reduceBEq, Nat.reduceAdd, Nat.reduceLeDiff, Nat.reduceSub, Nat.reduceMul, Int.reduceToNat, List.size_toArray, tyF, MM, bu0, ipure, kpure, tpure, kset, tset, ksnoc, tsnoc, Kind.av, Twist.sl, Twist.tr]
  refine awp_loop (fun j st => j ≤ n ∧ st.fr 9 = .i64 j ∧ st.fr 8 = .i64 n ∧ st.fr 3 = .ref 6 [] 1 0 n ∧ st.mem 6 = some (itr (mixL (runI 0 n) (List.replicate n 0) j))) (n) ?_ ?_
  · simp -dsimp -implicitDefEqProofs (disch := first | omega | (simp only [lenr]; done) | (simp only [lenr]; omega)) only [↓amPre, amPost0, amPost1, amPost2, amPost3, ↓reduceIte, reduceCtorEq, Nat.reduceEqDiff, Nat.reduceBEq, Nat.reduceAdd, Nat.reduceLeDiff, Nat.reduceSub, Nat.reduceMul, Int.reduceToNat, List.size_toArray, tyF, MM, bu0, ipure, kpure, tpure, kset, tset, ksnoc, tsnoc, Kind.av, Twist.sl, Twist.tr, mixL_zero]
    simp
  rintro j st _ ⟨hj, f9, f8, f3, m6⟩
  have hm := mixL_len (runI 0 n) (List.replicate n 0) j (by simp [hr])
  rw [List.length_replicate] at hm
  by_cases hlt : j < n
  · have hs := mixL_set (runI 0 n) (List.replicate n 0) j 0 (by simp [hr]) (by simp; omega)
    rw [runI_get 0 n j hlt, Int.zero_add] at hs
    simp -dsimp -implicitDefEqProofs (disch := first | omega | (simp only [lenr]; done) | (simp only [lenr]; omega)) only [↓amPre, amPost0, amPost1, amPost2, amPost3, ↓reduceIte, reduceCtorEq, Nat.reduceEqDiff, Nat.reduceBEq, Nat.reduceAdd, Nat.reduceLeDiff, Nat.reduceSub, Nat.reduceMul, Int.reduceToNat, List.size_toArray, tyF, MM, bu0, ipure, kpure, tpure, kset, tset, ksnoc, tsnoc, Kind.av, Twist.sl, Twist.tr, f9, f8, f3, m6, hm, hs]
    repeat' (first | omega | rfl | exact i64c (by omega) | exact vic (by omega) | apply And.intro)
  · have hje : j = n := by omega
    subst hje
    have := mixL_all (runI 0 j) (List.replicate j 0) j (by omega) (by simp)
    simp -dsimp -implicitDefEqProofs (disch := first | omega | (simp only [lenr]; done) | (simp only [lenr]; omega)) only [↓amPre, amPost0, amPost1, amPost2, amPost3, ↓reduceIte, reduceCtorEq, Nat.reduceEqDiff, Nat.reduceBEq, Nat.reduceAdd, Nat.reduceLeDiff, Nat.reduceSub, Nat.reduceMul, Int.reduceToNat, List.size_toArray, tyF, MM, bu0, ipure, kpure, tpure, kset, tset, ksnoc, tsnoc, Kind.av, Twist.sl, Twist.tr, f9, f8, f3, m6, hm, hr, this]
theorem isolvedPieces (ks : List Kind) (hl : ks.length ≤ 1099511627776) : SpecAt Try.prog 43 [ksl ks] (ttr (solvedR ks)) := by
  refine spec_of_awp (M := MM) (np := 1) (fz := false) mixed Try.func43 rfl rfl (by decide) rfl (Nat.le_refl _) (by decide +kernel) (.inl rfl) (by first | trivial | simp only [sigsOk_nil, sigsOk_some, sigsOk_none, sig_tr, sig_pt, sig_mt, sig_agg, List.map_cons, List.map_nil, sig1_tr, sig1_pt, sig1_v, and_self, true_and, List.length_map, List.length_set]) ?_
  simp -dsimp -implicitDefEqProofs (disch := first | omega | (simp only [lenr]; done) | (simp only [lenr]; omega)) only [↓amPre, amPost0, amPost1, amPost2, amPost3, ↓reduceIte, reduceCtorEq, Nat.reduceEqDiff, Nat.reduceBEq, Nat.reduceAdd, Nat.reduceLeDiff, Nat.reduceSub, Nat.reduceMul, Int.reduceToNat, List.size_toArray, tyF, MM, bu0, ipure, kpure, tpure, kset, tset, ksnoc, tsnoc, Kind.av, Twist.sl, Twist.tr]
  refine callP_of (iAreValidKinds _ hl) ?_
  by_cases h : kindsOk ks
  · have hl3 := h.1.2
    have hR : solvedR ks = ks.map solvedK := if_pos h
    simp -dsimp -implicitDefEqProofs (disch := first | omega | (simp only [lenr]; done) | (simp only [lenr]; omega)) only [↓amPre, amPost0, amPost1, amPost2, amPost3, ↓reduceIte, reduceCtorEq, Nat.reduceEqDiff, Nat.reduceBEq, Nat.reduceAdd, Nat.reduceLeDiff, Nat.reduceSub, Nat.reduceMul, Int.reduceToNat, List.size_toArray, tyF, MM, bu0, ipure, kpure, tpure, kset, tset, ksnoc, tsnoc, Kind.av, Twist.sl, Twist.tr, h]
    refine awp_loopN 3 24 2 (by simp [St.put]) (by decide) (fun k st => k ≤ ks.length ∧ st.fr 11 = .i64 k ∧ st.fr 10 = .i64 ks.length ∧ st.fr 9 = ksl ks ∧ st.fr 3 = .ref 24 [] 2 0 k ∧ st.mem 24 = some (ttr ((ks.take k).map solvedK))) ks.length ?_ ?_
    · simp -dsimp -implicitDefEqProofs (disch := first | omega | (simp only [lenr]; done) | (simp only [lenr]; omega)) only [↓amPre, amPost0, amPost1, amPost2, amPost3, ↓reduceIte, reduceCtorEq, Nat.reduceEqDiff, Nat.reduceBEq, Nat.reduceAdd, Nat.reduceLeDiff, Nat.reduceSub, Nat.reduceMul, Int.reduceToNat, List.size_toArray, tyF, MM, bu0, ipure, kpure, tpure, kset, tset, ksnoc, tsnoc, Kind.av, Twist.sl, Twist.tr, nilAs_eq]
      simp
    rintro k st _ ⟨hk, f11, f10, f9, f3, m24⟩
    by_cases hlt : k < ks.length
    · obtain ⟨c1, c2, o1, o2, _⟩ := kindsOk_kind h (mem_getD ks k default hlt)
      obtain ⟨c, hc⟩ : ∃ c : Nat, (ks.getD k default).c = c := ⟨(ks.getD k default).c.toNat, by omega⟩
      have hms := map_take_succ solvedK ks k default hlt
      have hsk : solvedK (ks.getD k default) = ⟨runI 0 c, List.replicate c 0⟩ := by rw [solvedK, hc, Int.toNat_natCast]
      have hrp : List.replicate c (AV.v (Value.int .i64 0)) = (List.replicate c (0:Int)).map AV.i64 := by simp
      have hr := runI_len 0 c
      rw [hsk] at hms
      have hml : ((ks.take k).map solvedK).length = k := by simp; omega
      simp -dsimp -implicitDefEqProofs (disch := first | omega | (simp only [lenr]; done) | (simp only [lenr]; omega)) only [↓amPre, amPost0, amPost1, amPost2, amPost3, ↓reduceIte, reduceCtorEq, Nat.reduceEqDiff, Nat.reduceBEq, Nat.reduceAdd, Nat.reduceLeDiff, Nat.reduceSub, Nat.reduceMul, Int.reduceToNat, List.size_toArray, tyF, MM, bu0, ipure, kpure, tpure, kset, tset, ksnoc, tsnoc, Kind.av, Twist.sl, Twist.tr, f11, f10, f9, f3, m24, hc]
      refine callP_of (iidentity c (by omega)) ?_
      simp -dsimp -implicitDefEqProofs (disch := first | omega | (simp only [lenr]; done) | (simp only [lenr]; omega)) only [↓amPre, amPost0, amPost1, amPost2, amPost3, ↓reduceIte, reduceCtorEq, Nat.reduceEqDiff, Nat.reduceBEq, Nat.reduceAdd, Nat.reduceLeDiff, Nat.reduceSub, Nat.reduceMul, Int.reduceToNat, List.size_toArray, tyF, MM, bu0, ipure, kpure, tpure, kset, tset, ksnoc, tsnoc, Kind.av, Twist.sl, Twist.tr, f11, f10, f9, f3, m24, hc, hr, hml, repl_len, ← hms]
      repeat' (first | omega | rfl | exact i64c (by omega) | exact vic (by omega) | apply And.intro)
    · have hke : k = ks.length := by omega
      subst hke
      have hml : ((ks.take ks.length).map solvedK).length = ks.length := by simp
      simp -dsimp -implicitDefEqProofs (disch := first | omega | (simp only [lenr]; done) | (simp only [lenr]; omega)) only [↓amPre, amPost0, amPost1, amPost2, amPost3, ↓reduceIte, reduceCtorEq, Nat.reduceEqDiff, Nat.reduceBEq, Nat.reduceAdd, Nat.reduceLeDiff, Nat.reduceSub, Nat.reduceMul, Int.reduceToNat, List.size_toArray, tyF, MM, bu0, ipure, kpure, tpure, kset, tset, ksnoc, tsnoc, Kind.av, Twist.sl, Twist.tr, f11, f10, f9, f3, m24, hR, hml, List.take_length]
  · have hR : solvedR ks = [] := if_neg h
    simp -dsimp -implicitDefEqProofs (disch := first | omega | (simp only [lenr]; done) | (simp only [lenr]; omega)) only [↓amPre, amPost0, amPost1, amPost2, amPost3, ↓reduceIte, reduceCtorEq, Nat.reduceEqDiff, Nat.reduceBEq, Nat.reduceAdd, Nat.reduceLeDiff, Nat.reduceSub, Nat.reduceMul, Int.reduceToNat, List.size_toArray, tyF, MM, bu0, ipure, kpure, tpure, kset, tset, ksnoc, tsnoc, Kind.av, Twist.sl, Twist.tr, h, hR]
end Go.AM

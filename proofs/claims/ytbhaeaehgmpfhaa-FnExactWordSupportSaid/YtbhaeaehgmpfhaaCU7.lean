/-
  CONTRACTS of functions of the program, and what they compute, by content.
-/
import Derived.Test.YtbhaeaehgmpfhaaCU6
import Derived.Test.YtbhaeaehgmpfhaaCP3
import Derived.Test.YtbhaeaehgmpfhaaCE0
set_option linter.unusedVariables false
set_option linter.unusedSimpArgs false
set_option maxRecDepth 8000
namespace Go.AM
open Go.Proofs
theorem iidentity (n : Nat) (hn : n ≤ 1099511627776) : SpecAt Try.prog 142 [.i64 n] (itr (runI 0 n)) := by
  refine spec_of_awp (M := MM) (np := 1) (fz := false) mixed Try.func142 rfl rfl (by decide) rfl (Nat.le_refl _) (by decide +kernel) (.inl rfl) (by first | trivial | simp only [sigsOk_nil, sigsOk_some, sigsOk_none, sig_tr, sig_pt, sig_mt, sig_agg, List.map_cons, List.map_nil, sig1_tr, sig1_pt, sig1_v, and_self, true_and, List.length_map, List.length_set]) ?_
  have hr := runI_len 0 n
  simp -dsimp -implicitDefEqProofs (disch := first | omega | (simp only [lenr]; done) | (simp only [lenr]; omega)) only [↓amPre, amAll, ↓reduceIte, reduceCtorEq, Nat.reduceEqDiff, Nat.reduceBEq, Nat.reduceAdd, Nat.reduceLeDiff, Nat.reduceSub, Nat.reduceMul, Int.reduceToNat, List.size_toArray, tyF, MM, bu0, ipure, kpure, tpure, sspure, kset, tset, ksnoc, tsnoc, Kind.av, Twist.sl, Twist.tr, Invar.av, stsize, stget, sttl, stapp, stext, tsspure, Model.sl, Model.tr]
  refine awp_loop (fun j st => j ≤ n ∧ st.fr 9 = .i64 j ∧ st.fr 8 = .i64 n ∧ st.fr 3 = .ref 6 [] 1 0 n ∧ st.mem 6 = some (itr (mixL (runI 0 n) (List.replicate n 0) j))) (n) ?_ ?_
  · simp -dsimp -implicitDefEqProofs (disch := first | omega | (simp only [lenr]; done) | (simp only [lenr]; omega)) only [↓amPre, amAll, ↓reduceIte, reduceCtorEq, Nat.reduceEqDiff, Nat.reduceBEq, Nat.reduceAdd, Nat.reduceLeDiff, Nat.reduceSub, Nat.reduceMul, Int.reduceToNat, List.size_toArray, tyF, MM, bu0, ipure, kpure, tpure, sspure, kset, tset, ksnoc, tsnoc, Kind.av, Twist.sl, Twist.tr, Invar.av, stsize, stget, sttl, stapp, stext, tsspure, Model.sl, Model.tr, mixL_zero]
    simp
  rintro j st _ ⟨hj, f9, f8, f3, m6⟩
  have hm := mixL_len (runI 0 n) (List.replicate n 0) j (by simp [hr])
  rw [List.length_replicate] at hm
  by_cases hlt : j < n
  · have hs := mixL_set (runI 0 n) (List.replicate n 0) j 0 (by simp [hr]) (by simp; omega)
    rw [runI_get 0 n j hlt, Int.zero_add] at hs
    simp -dsimp -implicitDefEqProofs (disch := first | omega | (simp only [lenr]; done) | (simp only [lenr]; omega)) only [↓amPre, amAll, ↓reduceIte, reduceCtorEq, Nat.reduceEqDiff, Nat.reduceBEq, Nat.reduceAdd, Nat.reduceLeDiff, Nat.reduceSub, Nat.reduceMul, Int.reduceToNat, List.size_toArray, tyF, MM, bu0, ipure, kpure, tpure, sspure, kset, tset, ksnoc, tsnoc, Kind.av, Twist.sl, Twist.tr, Invar.av, stsize, stget, sttl, stapp, stext, tsspure, Model.sl, Model.tr, f9, f8, f3, m6, hm, hs]
    repeat' (first | omega | rfl | exact i64c (by omega) | exact vic (by omega) | apply And.intro)
  · have hje : j = n := by omega
    subst hje
    have := mixL_all (runI 0 j) (List.replicate j 0) j (by omega) (by simp)
    simp -dsimp -implicitDefEqProofs (disch := first | omega | (simp only [lenr]; done) | (simp only [lenr]; omega)) only [↓amPre, amAll, ↓reduceIte, reduceCtorEq, Nat.reduceEqDiff, Nat.reduceBEq, Nat.reduceAdd, Nat.reduceLeDiff, Nat.reduceSub, Nat.reduceMul, Int.reduceToNat, List.size_toArray, tyF, MM, bu0, ipure, kpure, tpure, sspure, kset, tset, ksnoc, tsnoc, Kind.av, Twist.sl, Twist.tr, Invar.av, stsize, stget, sttl, stapp, stext, tsspure, Model.sl, Model.tr, f9, f8, f3, m6, hm, hr, this]
theorem icompose (p q : List Int) (hp : p.length ≤ 1099511627776) (hq : ∀ x ∈ p, 0 ≤ x ∧ x < q.length) : SpecAt Try.prog 103 [isl p, isl q] (itr (compI p q)) := by
  have hc : (compI p q).length = p.length := by simp [compI]
  refine spec_of_awp (M := MM) (np := 2) (fz := false) mixed Try.func103 rfl rfl (by decide) rfl (Nat.le_refl _) (by decide +kernel) (.inl rfl) (by first | trivial | simp only [sigsOk_nil, sigsOk_some, sigsOk_none, sig_tr, sig_pt, sig_mt, sig_agg, List.map_cons, List.map_nil, sig1_tr, sig1_pt, sig1_v, and_self, true_and, List.length_map, List.length_set]) ?_
  simp -dsimp -implicitDefEqProofs (disch := first | omega | (simp only [lenr]; done) | (simp only [lenr]; omega)) only [↓amPre, amAll, ↓reduceIte, reduceCtorEq, Nat.reduceEqDiff, Nat.reduceBEq, Nat.reduceAdd, Nat.reduceLeDiff, Nat.reduceSub, Nat.reduceMul, Int.reduceToNat, List.size_toArray, tyF, MM, bu0, ipure, kpure, tpure, sspure, kset, tset, ksnoc, tsnoc, Kind.av, Twist.sl, Twist.tr, Invar.av, stsize, stget, sttl, stapp, stext, tsspure, Model.sl, Model.tr]
  refine awp_loop (fun j st => j ≤ p.length ∧ st.fr 13 = .i64 j ∧ st.fr 12 = .i64 p.length ∧ st.fr 11 = isl p ∧ st.fr 1 = isl q ∧ st.fr 5 = .ref 10 [] 1 0 p.length ∧ st.mem 10 = some (itr (mixL (compI p q) (List.replicate p.length 0) j))) (p.length) ?_ ?_
  · simp -dsimp -implicitDefEqProofs (disch := first | omega | (simp only [lenr]; done) | (simp only [lenr]; omega)) only [↓amPre, amAll, ↓reduceIte, reduceCtorEq, Nat.reduceEqDiff, Nat.reduceBEq, Nat.reduceAdd, Nat.reduceLeDiff, Nat.reduceSub, Nat.reduceMul, Int.reduceToNat, List.size_toArray, tyF, MM, bu0, ipure, kpure, tpure, sspure, kset, tset, ksnoc, tsnoc, Kind.av, Twist.sl, Twist.tr, Invar.av, stsize, stget, sttl, stapp, stext, tsspure, Model.sl, Model.tr, mixL_zero]
    simp
  rintro j st _ ⟨hj, f13, f12, f11, f1, f5, m10⟩
  have hm := mixL_len (compI p q) (List.replicate p.length 0) j (by simp [hc])
  rw [List.length_replicate] at hm
  by_cases hlt : j < p.length
  · have hx := hq _ (mem_getD p j 0 hlt)
    have hs := mixL_set (compI p q) (List.replicate p.length 0) j 0 (by simp [hc]) (by simp; omega)
    have hg : (compI p q).getD j 0 = q.getD (p.getD j 0).toNat 0 := by simp [compI, List.getD, hlt]
    rw [hg] at hs
    simp -dsimp -implicitDefEqProofs (disch := first | omega | (simp only [lenr]; done) | (simp only [lenr]; omega)) only [↓amPre, amAll, ↓reduceIte, reduceCtorEq, Nat.reduceEqDiff, Nat.reduceBEq, Nat.reduceAdd, Nat.reduceLeDiff, Nat.reduceSub, Nat.reduceMul, Int.reduceToNat, List.size_toArray, tyF, MM, bu0, ipure, kpure, tpure, sspure, kset, tset, ksnoc, tsnoc, Kind.av, Twist.sl, Twist.tr, Invar.av, stsize, stget, sttl, stapp, stext, tsspure, Model.sl, Model.tr, f13, f12, f11, f1, f5, m10, hm, hs]
    repeat' (first | omega | rfl | exact i64c (by omega) | exact vic (by omega) | apply And.intro)
  · have hje : j = p.length := by omega
    subst hje
    have := mixL_all (compI p q) (List.replicate p.length 0) p.length (by omega) (by simp)
    simp -dsimp -implicitDefEqProofs (disch := first | omega | (simp only [lenr]; done) | (simp only [lenr]; omega)) only [↓amPre, amAll, ↓reduceIte, reduceCtorEq, Nat.reduceEqDiff, Nat.reduceBEq, Nat.reduceAdd, Nat.reduceLeDiff, Nat.reduceSub, Nat.reduceMul, Int.reduceToNat, List.size_toArray, tyF, MM, bu0, ipure, kpure, tpure, sspure, kset, tset, ksnoc, tsnoc, Kind.av, Twist.sl, Twist.tr, Invar.av, stsize, stget, sttl, stapp, stext, tsspure, Model.sl, Model.tr, f13, f12, f11, f1, f5, m10, hm, hc, this]
theorem iinverse (p : List Int) (hp : p.length ≤ 1099511627776) (hq : ∀ x ∈ p, 0 ≤ x ∧ x < p.length) : SpecAt Try.prog 107 [isl p] (itr (invI p)) := by
  refine spec_of_awp (M := MM) (np := 1) (fz := false) mixed Try.func107 rfl rfl (by decide) rfl (Nat.le_refl _) (by decide +kernel) (.inl rfl) (by first | trivial | simp only [sigsOk_nil, sigsOk_some, sigsOk_none, sig_tr, sig_pt, sig_mt, sig_agg, List.map_cons, List.map_nil, sig1_tr, sig1_pt, sig1_v, and_self, true_and, List.length_map, List.length_set]) ?_
  simp -dsimp -implicitDefEqProofs (disch := first | omega | (simp only [lenr]; done) | (simp only [lenr]; omega)) only [↓amPre, amAll, ↓reduceIte, reduceCtorEq, Nat.reduceEqDiff, Nat.reduceBEq, Nat.reduceAdd, Nat.reduceLeDiff, Nat.reduceSub, Nat.reduceMul, Int.reduceToNat, List.size_toArray, tyF, MM, bu0, ipure, kpure, tpure, sspure, kset, tset, ksnoc, tsnoc, Kind.av, Twist.sl, Twist.tr, Invar.av, stsize, stget, sttl, stapp, stext, tsspure, Model.sl, Model.tr]
  refine awp_loop (fun j st => j ≤ p.length ∧ st.fr 11 = .i64 j ∧ st.fr 10 = .i64 p.length ∧ st.fr 9 = isl p ∧ st.fr 3 = .ref 8 [] 1 0 p.length ∧ st.mem 8 = some (itr (scat (List.replicate p.length 0) p (fun i => (i : Int)) j))) (p.length) ?_ ?_
  · simp -dsimp -implicitDefEqProofs (disch := first | omega | (simp only [lenr]; done) | (simp only [lenr]; omega)) only [↓amPre, amAll, ↓reduceIte, reduceCtorEq, Nat.reduceEqDiff, Nat.reduceBEq, Nat.reduceAdd, Nat.reduceLeDiff, Nat.reduceSub, Nat.reduceMul, Int.reduceToNat, List.size_toArray, tyF, MM, bu0, ipure, kpure, tpure, sspure, kset, tset, ksnoc, tsnoc, Kind.av, Twist.sl, Twist.tr, Invar.av, stsize, stget, sttl, stapp, stext, tsspure, Model.sl, Model.tr]
    simp [scat]
  rintro j st _ ⟨hj, f11, f10, f9, f3, m8⟩
  have hm := scat_len (List.replicate p.length 0) p (fun i => (i : Int)) j
  rw [List.length_replicate] at hm
  by_cases hlt : j < p.length
  · have hx := hq _ (mem_getD p j 0 hlt)
    have hs : (scat (List.replicate p.length 0) p (fun i => (i : Int)) j).set (p.getD j 0).toNat (j : Int) = scat (List.replicate p.length 0) p (fun i => (i : Int)) (j + 1) := rfl
    simp -dsimp -implicitDefEqProofs (disch := first | omega | (simp only [lenr]; done) | (simp only [lenr]; omega)) only [↓amPre, amAll, ↓reduceIte, reduceCtorEq, Nat.reduceEqDiff, Nat.reduceBEq, Nat.reduceAdd, Nat.reduceLeDiff, Nat.reduceSub, Nat.reduceMul, Int.reduceToNat, List.size_toArray, tyF, MM, bu0, ipure, kpure, tpure, sspure, kset, tset, ksnoc, tsnoc, Kind.av, Twist.sl, Twist.tr, Invar.av, stsize, stget, sttl, stapp, stext, tsspure, Model.sl, Model.tr, f11, f10, f9, f3, m8, hm, hs]
    repeat' (first | omega | rfl | exact i64c (by omega) | exact vic (by omega) | apply And.intro)
  · have hje : j = p.length := by omega
    subst hje
    simp -dsimp -implicitDefEqProofs (disch := first | omega | (simp only [lenr]; done) | (simp only [lenr]; omega)) only [↓amPre, amAll, ↓reduceIte, reduceCtorEq, Nat.reduceEqDiff, Nat.reduceBEq, Nat.reduceAdd, Nat.reduceLeDiff, Nat.reduceSub, Nat.reduceMul, Int.reduceToNat, List.size_toArray, tyF, MM, bu0, ipure, kpure, tpure, sspure, kset, tset, ksnoc, tsnoc, Kind.av, Twist.sl, Twist.tr, Invar.av, stsize, stget, sttl, stapp, stext, tsspure, Model.sl, Model.tr, f11, f10, f9, f3, m8, hm]
    repeat' (first | omega | rfl | exact i64c (by omega) | exact vic (by omega) | apply And.intro)
end Go.AM

/-
  CONTRACTS of functions of the program, and what they compute, by content.
-/
import Derived.Test.YtenlmhbkigfjeaaCB1
import Derived.Test.YtenlmhbkigfjeaaCB0
set_option linter.unusedVariables false
set_option linter.unusedSimpArgs false
set_option maxRecDepth 8000
namespace Go.AM
namespace Dice
open Go.Proofs
theorem cmpP_ok {m : Model} (h : modelOk m) : puzzOk (cmpP m) := by
  have h1 := facets_bound m.ks h.1.2.1
  have h2 := h.1.1
  refine ⟨⟨⟨?_, h.1.2.2⟩, ?_, fun s hs => ?_⟩, h.2.1, by simp only [cmpP, List.length_map]; exact h.2.2.1⟩
  · simp only [cmpP]; omega
  · have := h.2.1.2; have := h.2.2.1; simp only [cmpP, List.length_map]; omega
  · obtain ⟨t, ht, rfl⟩ := List.mem_map.1 hs
    have ps := h.2.2.2 t ht
    exact ⟨permOf_len ps, permOf_perm ps⟩
theorem cmp_at {m : Model} {i : Nat} (hi : i < m.mv.length) : (cmpP m).mv.getD i default = permOf m.ks (m.mv.getD i default) := by
  simp [cmpP, List.getD, hi]
noncomputable def cmK (m : Model) (d : Dc) : Nat → Dc × List Twist × List Int
  | 0 => (d, m.ks.map solvedK, [])
  | k + 1 => (dS (cmK m d k).1 m.mv.length, compS m.ks (cmK m d k).2.1 (m.mv.getD (dX (cmK m d k).1 m.mv.length).toNat default), (cmK m d k).2.2 ++ [dX (cmK m d k).1 m.mv.length + 1])
theorem cm_base {m : Model} (h : modelOk m) : permOf m.ks (m.ks.map solvedK) = runI 0 (cmpP m).n.toNat := by
  rw [permOf_solved h.1, bas, List.take_length]; rfl
theorem cmK_ok {m : Model} (h : modelOk m) {d : Dc} (hd : d.ok) : ∀ k, (cmK m d k).1.ok ∧ psOk m.ks (cmK m d k).2.1 ∧ (cmK m d k).2.2.length = k ∧ (∀ x ∈ (cmK m d k).2.2, 1 ≤ x ∧ x ≤ m.mv.length) ∧ permOf m.ks (cmK m d k).2.1 = effK (cmpP m).n (cmpP m).mv (cmK m d k).2.2 k
  | 0 => ⟨hd, solved_ok h.1, rfl, (by simp [cmK]), cm_base h⟩
  | k + 1 => by
    obtain ⟨h1, h2, h3, h4, h5⟩ := cmK_ok h hd k
    have hl8 := h.2.1.2
    have hl := h.2.2.1
    have hL : 1 ≤ (m.mv.length : Int) ∧ (m.mv.length : Int) ≤ 1000000 := by omega
    obtain ⟨_, f2, f3, f4⟩ := dF (cmK m d k).1 m.mv.length h1 hL
    obtain ⟨i, hi⟩ : ∃ i : Nat, dX (cmK m d k).1 m.mv.length = i := ⟨_, (Int.toNat_of_nonneg f3).symm⟩
    have hil : i < m.mv.length := by omega
    have pm := h.2.2.2 _ (mem_getD m.mv i default hil)
    simp only [cmK, hi, Int.toNat_natCast]
    refine ⟨f2, comp_ok h2 pm, by simp [h3], fun x hx => ?_, ?_⟩
    · rcases List.mem_append.1 hx with hx | hx
      · exact h4 x hx
      · rw [List.mem_singleton.1 hx]; omega
    · have hs := effK_snoc (cmpP m).n (cmpP m).mv (cmK m d k).2.2 ((i : Int) + 1)
      have hk1 : ((cmK m d k).2.2 ++ [(i : Int) + 1]).length = k + 1 := by simp [h3]
      rw [hk1, h3, letP_pos, cmp_at hil] at hs
      rw [hs, ← h5, perm_comp h2 pm]
theorem psOk_small {ks : List Kind} {s : List Twist} (h : psOk ks s) : smallT s := by
  have h3 := h.1.1.2
  refine ⟨by have := h.2.1; omega, fun t ht => ?_⟩
  obtain ⟨i, hi, rfl⟩ := List.getElem_of_mem ht
  have h4 := h.2.2 i (by have := h.2.1; omega)
  have h5 := h.1.2.1 _ (mem_getD ks i default (by have := h.2.1; omega))
  rw [getD_eq _ _ _ hi] at h4
  have := h4.1; have := h4.2.1; have := h5.1
  omega
theorem w6Id (n : Nat) (hn : n ≤ 20) : SpecAt Try.prog 31 [.i64 n] (itr (runI 0 n)) := by
  refine spec_of_awp (M := MM) (np := 1) (fz := false) mixed Try.func31 rfl rfl (by decide) rfl (Nat.le_refl _) (by decide +kernel) (.inl rfl) (by first | trivial | simp only [sigsOk_nil, sigsOk_some, sigsOk_none, sig_tr, sig_pt, sig_mt, sig_agg, List.map_cons, List.map_nil, sig1_tr, sig1_pt, sig1_v, and_self, true_and, List.length_map, List.length_set]) ?_
  simp -dsimp -implicitDefEqProofs (disch := first | omega | (simp only [lenr]; done) | (simp only [lenr]; omega)) only [↓amPre, amAll, ↓reduceIte, reduceCtorEq, Nat.reduceEqDiff, Nat.reduceBEq, Nat.reduceAdd, Nat.reduceLeDiff, Nat.reduceSub, Nat.reduceMul, Int.reduceToNat, List.size_toArray, tyF, MM, bu0, ipure, kpure, tpure, sspure, kset, tset, ksnoc, tsnoc, Kind.av, Twist.sl, Twist.tr, Invar.av, stsize, stget, sttl, stapp, stext, tsspure, Model.sl, Model.tr, vset, vsnoc, vpure, Puzz.sl, Puzz.tr, keyB_str, keyB_int, MF]
  refine awp_loop (fun k st => k ≤ n ∧ st.fr 4 = .i64 k ∧ st.fr 0 = .i64 n ∧ ((k = 0 ∧ st.fr 3 = .ref 5 [] 1 0 0 ∧ st.mem 5 = some (.tr 1 [])) ∨ (0 < k ∧ st.fr 3 = .ref 14 [] 1 0 k ∧ st.mem 14 = some (itr (runI 0 k))))) (n) ?_ ?_
  · simp -dsimp -implicitDefEqProofs (disch := first | omega | (simp only [lenr]; done) | (simp only [lenr]; omega)) only [↓amPre, amAll, ↓reduceIte, reduceCtorEq, Nat.reduceEqDiff, Nat.reduceBEq, Nat.reduceAdd, Nat.reduceLeDiff, Nat.reduceSub, Nat.reduceMul, Int.reduceToNat, List.size_toArray, tyF, MM, bu0, ipure, kpure, tpure, sspure, kset, tset, ksnoc, tsnoc, Kind.av, Twist.sl, Twist.tr, Invar.av, stsize, stget, sttl, stapp, stext, tsspure, Model.sl, Model.tr, vset, vsnoc, vpure, Puzz.sl, Puzz.tr, keyB_str, keyB_int, MF]
    simp
  rintro k st _ ⟨hk, f4, f0, ek⟩
  have hr := runI_succ 0 k
  rw [Int.zero_add] at hr
  have hl := runI_len 0 k
  have hl2 := runI_len 0 (k + 1)
  rcases ek with ⟨rfl, g3, g5⟩ | ⟨h0, g3, g5⟩
  · by_cases hlt : 0 < n
    · have h1 : runI 0 1 = [0] := rfl
      simp -dsimp -implicitDefEqProofs (disch := first | omega | (simp only [lenr]; done) | (simp only [lenr]; omega)) only [↓amPre, amAll, ↓reduceIte, reduceCtorEq, Nat.reduceEqDiff, Nat.reduceBEq, Nat.reduceAdd, Nat.reduceLeDiff, Nat.reduceSub, Nat.reduceMul, Int.reduceToNat, List.size_toArray, tyF, MM, bu0, ipure, kpure, tpure, sspure, kset, tset, ksnoc, tsnoc, Kind.av, Twist.sl, Twist.tr, Invar.av, stsize, stget, sttl, stapp, stext, tsspure, Model.sl, Model.tr, vset, vsnoc, vpure, Puzz.sl, Puzz.tr, keyB_str, keyB_int, MF, f4, f0, g3, g5]
      repeat' (first | omega | rfl | exact i64c (by omega) | exact vic (by omega) | apply And.intro)
    · have hke : n = 0 := by omega
      subst hke
      simp -dsimp -implicitDefEqProofs (disch := first | omega | (simp only [lenr]; done) | (simp only [lenr]; omega)) only [↓amPre, amAll, ↓reduceIte, reduceCtorEq, Nat.reduceEqDiff, Nat.reduceBEq, Nat.reduceAdd, Nat.reduceLeDiff, Nat.reduceSub, Nat.reduceMul, Int.reduceToNat, List.size_toArray, tyF, MM, bu0, ipure, kpure, tpure, sspure, kset, tset, ksnoc, tsnoc, Kind.av, Twist.sl, Twist.tr, Invar.av, stsize, stget, sttl, stapp, stext, tsspure, Model.sl, Model.tr, vset, vsnoc, vpure, Puzz.sl, Puzz.tr, keyB_str, keyB_int, MF, f4, f0, g3, g5]
      rfl
  · by_cases hlt : k < n
    · simp -dsimp -implicitDefEqProofs (disch := first | omega | (simp only [lenr]; done) | (simp only [lenr]; omega)) only [↓amPre, amAll, ↓reduceIte, reduceCtorEq, Nat.reduceEqDiff, Nat.reduceBEq, Nat.reduceAdd, Nat.reduceLeDiff, Nat.reduceSub, Nat.reduceMul, Int.reduceToNat, List.size_toArray, tyF, MM, bu0, ipure, kpure, tpure, sspure, kset, tset, ksnoc, tsnoc, Kind.av, Twist.sl, Twist.tr, Invar.av, stsize, stget, sttl, stapp, stext, tsspure, Model.sl, Model.tr, vset, vsnoc, vpure, Puzz.sl, Puzz.tr, keyB_str, keyB_int, MF, f4, f0, g3, g5, hl, ← hr]
      repeat' (first | omega | rfl | exact i64c (by omega) | exact vic (by omega) | apply And.intro)
    · have hke : k = n := by omega
      subst hke
      simp -dsimp -implicitDefEqProofs (disch := first | omega | (simp only [lenr]; done) | (simp only [lenr]; omega)) only [↓amPre, amAll, ↓reduceIte, reduceCtorEq, Nat.reduceEqDiff, Nat.reduceBEq, Nat.reduceAdd, Nat.reduceLeDiff, Nat.reduceSub, Nat.reduceMul, Int.reduceToNat, List.size_toArray, tyF, MM, bu0, ipure, kpure, tpure, sspure, kset, tset, ksnoc, tsnoc, Kind.av, Twist.sl, Twist.tr, Invar.av, stsize, stget, sttl, stapp, stext, tsspure, Model.sl, Model.tr, vset, vsnoc, vpure, Puzz.sl, Puzz.tr, keyB_str, keyB_int, MF, f4, f0, g3, g5, hl]
theorem lawCompiledMoves (l : List UInt8) : SpecAt Try.prog 4 [bsl l] (.bl true) := by
  have qb := dbig l
  by_cases c : (4096 : Int) < l.length
  · rw [decide_eq_true c] at qb
    refine spec_of_awp_any (M := MM) (np := 1) (X := [16, 21]) (fz := true) mixed Try.func4 rfl rfl (by decide) rfl (Nat.le_refl _) (by decide +kernel) (.inr ⟨rfl, rfl⟩) trivial ?_
    simp -dsimp -implicitDefEqProofs (disch := first | omega | (simp only [lenr]; done) | (simp only [lenr]; omega)) only [↓amPre, amAll, ↓reduceIte, reduceCtorEq, Nat.reduceEqDiff, Nat.reduceBEq, Nat.reduceAdd, Nat.reduceLeDiff, Nat.reduceSub, Nat.reduceMul, Int.reduceToNat, List.size_toArray, tyF, MM, bu0, ipure, kpure, tpure, sspure, kset, tset, ksnoc, tsnoc, Kind.av, Twist.sl, Twist.tr, Invar.av, stsize, stget, sttl, stapp, stext, tsspure, Model.sl, Model.tr, vset, vsnoc, vpure, Puzz.sl, Puzz.tr, keyB_str, keyB_int, MF]
    refine callP_of (qb) ?_
    simp -dsimp -implicitDefEqProofs (disch := first | omega | (simp only [lenr]; done) | (simp only [lenr]; omega)) only [↓amPre, amAll, ↓reduceIte, reduceCtorEq, Nat.reduceEqDiff, Nat.reduceBEq, Nat.reduceAdd, Nat.reduceLeDiff, Nat.reduceSub, Nat.reduceMul, Int.reduceToNat, List.size_toArray, tyF, MM, bu0, ipure, kpure, tpure, sspure, kset, tset, ksnoc, tsnoc, Kind.av, Twist.sl, Twist.tr, Invar.av, stsize, stget, sttl, stapp, stext, tsspure, Model.sl, Model.tr, vset, vsnoc, vpure, Puzz.sl, Puzz.tr, keyB_str, keyB_int, MF]
  rw [decide_eq_false c] at qb
  have hl : l.length ≤ 4096 := by omega
  obtain ⟨m, q1, hf1, hf2, hf3, hf4⟩ := Draws.drawCompile l hl
  have hsm : smallM m := ⟨by omega, by omega, by omega, fun s hs => fewT_small (hf4 s hs)⟩
  have q2 := iCompile m hsm
  have q3 := sIsValidPieceModel m hsm
  by_cases hm : modelOk m
  case neg =>
    rw [decide_eq_false hm] at q2 q3
    refine spec_of_awp_any (M := MM) (np := 1) (X := [16, 21]) (fz := true) mixed Try.func4 rfl rfl (by decide) rfl (Nat.le_refl _) (by decide +kernel) (.inr ⟨rfl, rfl⟩) trivial ?_
    simp -dsimp -implicitDefEqProofs (disch := first | omega | (simp only [lenr]; done) | (simp only [lenr]; omega)) only [↓amPre, amAll, ↓reduceIte, reduceCtorEq, Nat.reduceEqDiff, Nat.reduceBEq, Nat.reduceAdd, Nat.reduceLeDiff, Nat.reduceSub, Nat.reduceMul, Int.reduceToNat, List.size_toArray, tyF, MM, bu0, ipure, kpure, tpure, sspure, kset, tset, ksnoc, tsnoc, Kind.av, Twist.sl, Twist.tr, Invar.av, stsize, stget, sttl, stapp, stext, tsspure, Model.sl, Model.tr, vset, vsnoc, vpure, Puzz.sl, Puzz.tr, keyB_str, keyB_int, MF]
    refine callP_of (qb) ?_
    simp -dsimp -implicitDefEqProofs (disch := first | omega | (simp only [lenr]; done) | (simp only [lenr]; omega)) only [↓amPre, amAll, ↓reduceIte, reduceCtorEq, Nat.reduceEqDiff, Nat.reduceBEq, Nat.reduceAdd, Nat.reduceLeDiff, Nat.reduceSub, Nat.reduceMul, Int.reduceToNat, List.size_toArray, tyF, MM, bu0, ipure, kpure, tpure, sspure, kset, tset, ksnoc, tsnoc, Kind.av, Twist.sl, Twist.tr, Invar.av, stsize, stget, sttl, stapp, stext, tsspure, Model.sl, Model.tr, vset, vsnoc, vpure, Puzz.sl, Puzz.tr, keyB_str, keyB_int, MF]
    refine callP_of (q1) ?_
    simp -dsimp -implicitDefEqProofs (disch := first | omega | (simp only [lenr]; done) | (simp only [lenr]; omega)) only [↓amPre, amAll, ↓reduceIte, reduceCtorEq, Nat.reduceEqDiff, Nat.reduceBEq, Nat.reduceAdd, Nat.reduceLeDiff, Nat.reduceSub, Nat.reduceMul, Int.reduceToNat, List.size_toArray, tyF, MM, bu0, ipure, kpure, tpure, sspure, kset, tset, ksnoc, tsnoc, Kind.av, Twist.sl, Twist.tr, Invar.av, stsize, stget, sttl, stapp, stext, tsspure, Model.sl, Model.tr, vset, vsnoc, vpure, Puzz.sl, Puzz.tr, keyB_str, keyB_int, MF, kfz, tssfz]
    refine callP_of (q2) ?_
    simp -dsimp -implicitDefEqProofs (disch := first | omega | (simp only [lenr]; done) | (simp only [lenr]; omega)) only [↓amPre, amAll, ↓reduceIte, reduceCtorEq, Nat.reduceEqDiff, Nat.reduceBEq, Nat.reduceAdd, Nat.reduceLeDiff, Nat.reduceSub, Nat.reduceMul, Int.reduceToNat, List.size_toArray, tyF, MM, bu0, ipure, kpure, tpure, sspure, kset, tset, ksnoc, tsnoc, Kind.av, Twist.sl, Twist.tr, Invar.av, stsize, stget, sttl, stapp, stext, tsspure, Model.sl, Model.tr, vset, vsnoc, vpure, Puzz.sl, Puzz.tr, keyB_str, keyB_int, MF, kfz, tssfz]
    refine callP_of (q3) ?_
    simp -dsimp -implicitDefEqProofs (disch := first | omega | (simp only [lenr]; done) | (simp only [lenr]; omega)) only [↓amPre, amAll, ↓reduceIte, reduceCtorEq, Nat.reduceEqDiff, Nat.reduceBEq, Nat.reduceAdd, Nat.reduceLeDiff, Nat.reduceSub, Nat.reduceMul, Int.reduceToNat, List.size_toArray, tyF, MM, bu0, ipure, kpure, tpure, sspure, kset, tset, ksnoc, tsnoc, Kind.av, Twist.sl, Twist.tr, Invar.av, stsize, stget, sttl, stapp, stext, tsspure, Model.sl, Model.tr, vset, vsnoc, vpure, Puzz.sl, Puzz.tr, keyB_str, keyB_int, MF]
  rw [decide_eq_true hm] at q2 q3
  have hR : cmpR m = cmpP m := if_pos hm
  rw [hR] at q2
  have hP := cmpP_ok hm
  have hPs := cmpP_small hm
  have q4 := sPuzzle (cmpP m) hPs
  rw [decide_eq_true hP] at q4
  have q5 := droll l 906 hl
  have k5 : (⟨l, 0, rlK l 906 l.length⟩ : Dc).ok := ⟨hl, by simp⟩
  generalize (⟨l, 0, rlK l 906 l.length⟩ : Dc) = d0 at q5 k5
  have q6 := isolvedPieces m.ks (by omega)
  have hS0 : solvedR m.ks = m.ks.map solvedK := if_pos hm.1
  rw [hS0] at q6
  obtain ⟨d1, x1, q7, k7, b1, b2⟩ := dbelow d0 6 k5 (by omega)
  obtain ⟨n, hn⟩ : ∃ n : Nat, x1 = n := ⟨_, (Int.toNat_of_nonneg b1).symm⟩
  subst hn
  have hn5 : n ≤ 5 := by omega
  have hcm := cmK_ok hm k7
  have hl8 := hm.2.1.2
  have hll := hm.2.2.1
  have hL : 1 ≤ (m.mv.length : Int) ∧ (m.mv.length : Int) ≤ 1000000 := by omega
  refine spec_of_awp_any (M := MM) (np := 1) (X := [16, 21]) (fz := true) mixed Try.func4 rfl rfl (by decide) rfl (Nat.le_refl _) (by decide +kernel) (.inr ⟨rfl, rfl⟩) trivial ?_
  simp -dsimp -implicitDefEqProofs (disch := first | omega | (simp only [lenr]; done) | (simp only [lenr]; omega)) only [↓amPre, amAll, ↓reduceIte, reduceCtorEq, Nat.reduceEqDiff, Nat.reduceBEq, Nat.reduceAdd, Nat.reduceLeDiff, Nat.reduceSub, Nat.reduceMul, Int.reduceToNat, List.size_toArray, tyF, MM, bu0, ipure, kpure, tpure, sspure, kset, tset, ksnoc, tsnoc, Kind.av, Twist.sl, Twist.tr, Invar.av, stsize, stget, sttl, stapp, stext, tsspure, Model.sl, Model.tr, vset, vsnoc, vpure, Puzz.sl, Puzz.tr, keyB_str, keyB_int, MF]
  refine callP_of (qb) ?_
  simp -dsimp -implicitDefEqProofs (disch := first | omega | (simp only [lenr]; done) | (simp only [lenr]; omega)) only [↓amPre, amAll, ↓reduceIte, reduceCtorEq, Nat.reduceEqDiff, Nat.reduceBEq, Nat.reduceAdd, Nat.reduceLeDiff, Nat.reduceSub, Nat.reduceMul, Int.reduceToNat, List.size_toArray, tyF, MM, bu0, ipure, kpure, tpure, sspure, kset, tset, ksnoc, tsnoc, Kind.av, Twist.sl, Twist.tr, Invar.av, stsize, stget, sttl, stapp, stext, tsspure, Model.sl, Model.tr, vset, vsnoc, vpure, Puzz.sl, Puzz.tr, keyB_str, keyB_int, MF]
  refine callP_of (q1) ?_
  simp -dsimp -implicitDefEqProofs (disch := first | omega | (simp only [lenr]; done) | (simp only [lenr]; omega)) only [↓amPre, amAll, ↓reduceIte, reduceCtorEq, Nat.reduceEqDiff, Nat.reduceBEq, Nat.reduceAdd, Nat.reduceLeDiff, Nat.reduceSub, Nat.reduceMul, Int.reduceToNat, List.size_toArray, tyF, MM, bu0, ipure, kpure, tpure, sspure, kset, tset, ksnoc, tsnoc, Kind.av, Twist.sl, Twist.tr, Invar.av, stsize, stget, sttl, stapp, stext, tsspure, Model.sl, Model.tr, vset, vsnoc, vpure, Puzz.sl, Puzz.tr, keyB_str, keyB_int, MF, kfz, tssfz]
  refine callP_of (q2) ?_
  simp -dsimp -implicitDefEqProofs (disch := first | omega | (simp only [lenr]; done) | (simp only [lenr]; omega)) only [↓amPre, amAll, ↓reduceIte, reduceCtorEq, Nat.reduceEqDiff, Nat.reduceBEq, Nat.reduceAdd, Nat.reduceLeDiff, Nat.reduceSub, Nat.reduceMul, Int.reduceToNat, List.size_toArray, tyF, MM, bu0, ipure, kpure, tpure, sspure, kset, tset, ksnoc, tsnoc, Kind.av, Twist.sl, Twist.tr, Invar.av, stsize, stget, sttl, stapp, stext, tsspure, Model.sl, Model.tr, vset, vsnoc, vpure, Puzz.sl, Puzz.tr, keyB_str, keyB_int, MF, kfz, tssfz]
  refine callP_of (q3) ?_
  simp -dsimp -implicitDefEqProofs (disch := first | omega | (simp only [lenr]; done) | (simp only [lenr]; omega)) only [↓amPre, amAll, ↓reduceIte, reduceCtorEq, Nat.reduceEqDiff, Nat.reduceBEq, Nat.reduceAdd, Nat.reduceLeDiff, Nat.reduceSub, Nat.reduceMul, Int.reduceToNat, List.size_toArray, tyF, MM, bu0, ipure, kpure, tpure, sspure, kset, tset, ksnoc, tsnoc, Kind.av, Twist.sl, Twist.tr, Invar.av, stsize, stget, sttl, stapp, stext, tsspure, Model.sl, Model.tr, vset, vsnoc, vpure, Puzz.sl, Puzz.tr, keyB_str, keyB_int, MF, ssfz]
  refine callP_of (q4) ?_
  simp -dsimp -implicitDefEqProofs (disch := first | omega | (simp only [lenr]; done) | (simp only [lenr]; omega)) only [↓amPre, amAll, ↓reduceIte, reduceCtorEq, Nat.reduceEqDiff, Nat.reduceBEq, Nat.reduceAdd, Nat.reduceLeDiff, Nat.reduceSub, Nat.reduceMul, Int.reduceToNat, List.size_toArray, tyF, MM, bu0, ipure, kpure, tpure, sspure, kset, tset, ksnoc, tsnoc, Kind.av, Twist.sl, Twist.tr, Invar.av, stsize, stget, sttl, stapp, stext, tsspure, Model.sl, Model.tr, vset, vsnoc, vpure, Puzz.sl, Puzz.tr, keyB_str, keyB_int, MF]
  refine callP_of (q5) ?_
  simp -dsimp -implicitDefEqProofs (disch := first | omega | (simp only [lenr]; done) | (simp only [lenr]; omega)) only [↓amPre, amAll, ↓reduceIte, reduceCtorEq, Nat.reduceEqDiff, Nat.reduceBEq, Nat.reduceAdd, Nat.reduceLeDiff, Nat.reduceSub, Nat.reduceMul, Int.reduceToNat, List.size_toArray, tyF, MM, bu0, ipure, kpure, tpure, sspure, kset, tset, ksnoc, tsnoc, Kind.av, Twist.sl, Twist.tr, Invar.av, stsize, stget, sttl, stapp, stext, tsspure, Model.sl, Model.tr, vset, vsnoc, vpure, Puzz.sl, Puzz.tr, keyB_str, keyB_int, MF, kfz]
  refine callP_of (q6) ?_
  simp -dsimp -implicitDefEqProofs (disch := first | omega | (simp only [lenr]; done) | (simp only [lenr]; omega)) only [↓amPre, amAll, ↓reduceIte, reduceCtorEq, Nat.reduceEqDiff, Nat.reduceBEq, Nat.reduceAdd, Nat.reduceLeDiff, Nat.reduceSub, Nat.reduceMul, Int.reduceToNat, List.size_toArray, tyF, MM, bu0, ipure, kpure, tpure, sspure, kset, tset, ksnoc, tsnoc, Kind.av, Twist.sl, Twist.tr, Invar.av, stsize, stget, sttl, stapp, stext, tsspure, Model.sl, Model.tr, vset, vsnoc, vpure, Puzz.sl, Puzz.tr, keyB_str, keyB_int, MF]
  refine callX_of (q7) ?_
  simp -dsimp -implicitDefEqProofs (disch := first | omega | (simp only [lenr]; done) | (simp only [lenr]; omega)) only [↓amPre, amAll, ↓reduceIte, reduceCtorEq, Nat.reduceEqDiff, Nat.reduceBEq, Nat.reduceAdd, Nat.reduceLeDiff, Nat.reduceSub, Nat.reduceMul, Int.reduceToNat, List.size_toArray, tyF, MM, bu0, ipure, kpure, tpure, sspure, kset, tset, ksnoc, tsnoc, Kind.av, Twist.sl, Twist.tr, Invar.av, stsize, stget, sttl, stapp, stext, tsspure, Model.sl, Model.tr, vset, vsnoc, vpure, Puzz.sl, Puzz.tr, keyB_str, keyB_int, MF]
  have hPn : (cmpP m).n = ((cmpP m).n.toNat : Nat) := by have := hP.1.1; omega
  generalize hP0 : cmpP m = P at *
  refine awp_loopG _ (Ent.refl _) (fun k st => k ≤ n ∧ st.fr 9 = .i64 ((n : Int) - k) ∧ st.fr 6 = .loc 39 [] 0 0 ∧ st.fr 3 = .loc 3 [] 0 0 ∧ st.fr 4 = .loc 4 [] 0 0 ∧ st.mem 3 = some (.pt 3 (.agg [ktr m.ks, .st m.nm, tsst m.mv])) ∧ st.mem 4 = some (.pt 3 (.agg [.i64 P.n, .st P.nm, sst P.mv])) ∧ st.mem 39 = some (cmK m d1 k).1.pt ∧
    ((k = 0 ∧ st.fr 7 = .ref 42 [] 2 0 m.ks.length ∧ st.mem 42 = some (ttr (cmK m d1 k).2.1) ∧ st.fr 8 = .ref 43 [] 1 0 0 ∧ st.mem 43 = some (.tr 1 [])) ∨ (0 < k ∧ st.fr 7 = .ref 142 [(0, 0)] 2 0 (cmK m d1 k).2.1.length ∧ st.mem 142 = some (.tup [ttr (cmK m d1 k).2.1, .bl true]) ∧ st.fr 8 = .ref 74 [] 1 0 k ∧ st.mem 74 = some (itr (cmK m d1 k).2.2)))) n ?_ ?_
  · simp -dsimp -implicitDefEqProofs (disch := first | omega | (simp only [lenr]; done) | (simp only [lenr]; omega)) only [↓amPre, amAll, ↓reduceIte, reduceCtorEq, Nat.reduceEqDiff, Nat.reduceBEq, Nat.reduceAdd, Nat.reduceLeDiff, Nat.reduceSub, Nat.reduceMul, Int.reduceToNat, List.size_toArray, tyF, MM, bu0, ipure, kpure, tpure, sspure, kset, tset, ksnoc, tsnoc, Kind.av, Twist.sl, Twist.tr, Invar.av, stsize, stget, sttl, stapp, stext, tsspure, Model.sl, Model.tr, vset, vsnoc, vpure, Puzz.sl, Puzz.tr, keyB_str, keyB_int, MF]
    simp [cmK]
  rintro k st _ ⟨hk, f9, f6, f3, f4, m3, m4, m39, ek⟩
  obtain ⟨h1, h2, h3, h4, h5⟩ := hcm k
  have hsl := h2.2.1
  by_cases hlt : k < n
  · have hst : cmK m d1 (k + 1) = (dS (cmK m d1 k).1 m.mv.length, compS m.ks (cmK m d1 k).2.1 (m.mv.getD (dX (cmK m d1 k).1 m.mv.length).toNat default), (cmK m d1 k).2.2 ++ [dX (cmK m d1 k).1 m.mv.length + 1]) := rfl
    obtain ⟨g1, g2, g3, g4⟩ := dF (cmK m d1 k).1 m.mv.length h1 hL
    obtain ⟨i, hi⟩ : ∃ i : Nat, dX (cmK m d1 k).1 m.mv.length = i := ⟨_, (Int.toNat_of_nonneg g3).symm⟩
    have hil : i < m.mv.length := by omega
    have pm := hm.2.2.2 _ (mem_getD m.mv i default hil)
    have hsS : smallT (cmK m d1 k).2.1 := psOk_small h2
    have hsM : smallT (m.mv.getD i default) := psOk_small pm
    have q8 := icomposePieces m.ks (cmK m d1 k).2.1 (m.mv.getD i default) (by omega) hsS hsM
    have hC : compR m.ks (cmK m d1 k).2.1 (m.mv.getD i default) = .tup [ttr (compS m.ks (cmK m d1 k).2.1 (m.mv.getD i default)), .bl true] := if_pos ⟨h2, pm⟩
    rw [hC] at q8
    rw [hi] at hst g1
    simp only [Int.toNat_natCast] at hst
    have hl4 : (compS m.ks (cmK m d1 k).2.1 (m.mv.getD i default)).length = m.ks.length := (comp_ok h2 pm).2.1
    generalize dS (cmK m d1 k).1 m.mv.length = D' at *
    generalize compS m.ks (cmK m d1 k).2.1 (m.mv.getD i default) = S' at *
    rw [hst]
    clear hst
    generalize (cmK m d1 k).1 = D at *
    generalize (cmK m d1 k).2.1 = S at *
    generalize (cmK m d1 k).2.2 = w at *
    have c1 : (0 : Int) < (n : Int) - k := by omega
    have e1 : IntKind.i64.wrap ((n : Int) - k - 1) = (n : Int) - (k + 1 : Nat) := by rw [wrap64_id (by omega)]; omega
    rcases ek with ⟨rfl, f7, m42, f8, m43⟩ | ⟨hk0, f7, m142, f8, m74⟩
    · obtain rfl : w = [] := List.eq_nil_of_length_eq_zero h3
      simp -dsimp -implicitDefEqProofs (disch := first | omega | (simp only [lenr]; done) | (simp only [lenr]; omega)) only [↓amPre, amAll, ↓reduceIte, reduceCtorEq, Nat.reduceEqDiff, Nat.reduceBEq, Nat.reduceAdd, Nat.reduceLeDiff, Nat.reduceSub, Nat.reduceMul, Int.reduceToNat, List.size_toArray, tyF, MM, bu0, ipure, kpure, tpure, sspure, kset, tset, ksnoc, tsnoc, Kind.av, Twist.sl, Twist.tr, Invar.av, stsize, stget, sttl, stapp, stext, tsspure, Model.sl, Model.tr, vset, vsnoc, vpure, Puzz.sl, Puzz.tr, keyB_str, keyB_int, MF, f9, f6, f3, f4, m3, m4, m39, f7, m42, f8, m43, lt_true c1]
      refine callX_of (g1) ?_
      simp -dsimp -implicitDefEqProofs (disch := first | omega | (simp only [lenr]; done) | (simp only [lenr]; omega)) only [↓amPre, amAll, ↓reduceIte, reduceCtorEq, Nat.reduceEqDiff, Nat.reduceBEq, Nat.reduceAdd, Nat.reduceLeDiff, Nat.reduceSub, Nat.reduceMul, Int.reduceToNat, List.size_toArray, tyF, MM, bu0, ipure, kpure, tpure, sspure, kset, tset, ksnoc, tsnoc, Kind.av, Twist.sl, Twist.tr, Invar.av, stsize, stget, sttl, stapp, stext, tsspure, Model.sl, Model.tr, vset, vsnoc, vpure, Puzz.sl, Puzz.tr, keyB_str, keyB_int, MF, f9, f6, f3, f4, m3, m4, m39, f7, m42, f8, m43, hsl]
      refine split_go 14 (by decide +kernel) ?_
      simp -dsimp -implicitDefEqProofs (disch := first | omega | (simp only [lenr]; done) | (simp only [lenr]; omega)) only [↓amPre, amAll, ↓reduceIte, reduceCtorEq, Nat.reduceEqDiff, Nat.reduceBEq, Nat.reduceAdd, Nat.reduceLeDiff, Nat.reduceSub, Nat.reduceMul, Int.reduceToNat, List.size_toArray, tyF, MM, bu0, ipure, kpure, tpure, sspure, kset, tset, ksnoc, tsnoc, Kind.av, Twist.sl, Twist.tr, Invar.av, stsize, stget, sttl, stapp, stext, tsspure, Model.sl, Model.tr, vset, vsnoc, vpure, Puzz.sl, Puzz.tr, keyB_str, keyB_int, MF, f9, f6, f3, f4, m3, m4, m39, f7, m42, f8, m43, hsl, tfz, kfz]
      refine callP_of (q8) ?_
      simp -dsimp -implicitDefEqProofs (disch := first | omega | (simp only [lenr]; done) | (simp only [lenr]; omega)) only [↓amPre, amAll, ↓reduceIte, reduceCtorEq, Nat.reduceEqDiff, Nat.reduceBEq, Nat.reduceAdd, Nat.reduceLeDiff, Nat.reduceSub, Nat.reduceMul, Int.reduceToNat, List.size_toArray, tyF, MM, bu0, ipure, kpure, tpure, sspure, kset, tset, ksnoc, tsnoc, Kind.av, Twist.sl, Twist.tr, Invar.av, stsize, stget, sttl, stapp, stext, tsspure, Model.sl, Model.tr, vset, vsnoc, vpure, Puzz.sl, Puzz.tr, keyB_str, keyB_int, MF, f9, f6, f3, f4, m3, m4, m39, f7, m42, f8, m43, hsl]
      refine ⟨by omega, _, ent_ren _ 64 142 (.tup [ttr S', .bl true]) (by simp -dsimp -implicitDefEqProofs (disch := first | omega | (simp only [lenr]; done) | (simp only [lenr]; omega)) only [↓amPre, amAll, ↓reduceIte, reduceCtorEq, Nat.reduceEqDiff, Nat.reduceBEq, Nat.reduceAdd, Nat.reduceLeDiff, Nat.reduceSub, Nat.reduceMul, Int.reduceToNat, List.size_toArray, tyF, MM, bu0, ipure, kpure, tpure, sspure, kset, tset, ksnoc, tsnoc, Kind.av, Twist.sl, Twist.tr, Invar.av, stsize, stget, sttl, stapp, stext, tsspure, Model.sl, Model.tr, vset, vsnoc, vpure, Puzz.sl, Puzz.tr, keyB_str, keyB_int, MF]) (by decide) (by decide) (by decide), ?_⟩
      simp -dsimp -implicitDefEqProofs (disch := first | omega | (simp only [lenr]; done) | (simp only [lenr]; omega)) only [↓amPre, amAll, ↓reduceIte, reduceCtorEq, Nat.reduceEqDiff, Nat.reduceBEq, Nat.reduceAdd, Nat.reduceLeDiff, Nat.reduceSub, Nat.reduceMul, Int.reduceToNat, List.size_toArray, tyF, MM, bu0, ipure, kpure, tpure, sspure, kset, tset, ksnoc, tsnoc, Kind.av, Twist.sl, Twist.tr, Invar.av, stsize, stget, sttl, stapp, stext, tsspure, Model.sl, Model.tr, vset, vsnoc, vpure, Puzz.sl, Puzz.tr, keyB_str, keyB_int, MF, ren_eq, f9, f6, f3, f4, m3, m4, m39, f7, m42, f8, m43, hsl, e1, hl4]
      repeat' (first | omega | rfl | exact i64c (by omega) | exact vic (by omega) | apply And.intro)
    · simp -dsimp -implicitDefEqProofs (disch := first | omega | (simp only [lenr]; done) | (simp only [lenr]; omega)) only [↓amPre, amAll, ↓reduceIte, reduceCtorEq, Nat.reduceEqDiff, Nat.reduceBEq, Nat.reduceAdd, Nat.reduceLeDiff, Nat.reduceSub, Nat.reduceMul, Int.reduceToNat, List.size_toArray, tyF, MM, bu0, ipure, kpure, tpure, sspure, kset, tset, ksnoc, tsnoc, Kind.av, Twist.sl, Twist.tr, Invar.av, stsize, stget, sttl, stapp, stext, tsspure, Model.sl, Model.tr, vset, vsnoc, vpure, Puzz.sl, Puzz.tr, keyB_str, keyB_int, MF, f9, f6, f3, f4, m3, m4, m39, f7, m142, f8, m74, lt_true c1]
      refine callX_of (g1) ?_
      simp -dsimp -implicitDefEqProofs (disch := first | omega | (simp only [lenr]; done) | (simp only [lenr]; omega)) only [↓amPre, amAll, ↓reduceIte, reduceCtorEq, Nat.reduceEqDiff, Nat.reduceBEq, Nat.reduceAdd, Nat.reduceLeDiff, Nat.reduceSub, Nat.reduceMul, Int.reduceToNat, List.size_toArray, tyF, MM, bu0, ipure, kpure, tpure, sspure, kset, tset, ksnoc, tsnoc, Kind.av, Twist.sl, Twist.tr, Invar.av, stsize, stget, sttl, stapp, stext, tsspure, Model.sl, Model.tr, vset, vsnoc, vpure, Puzz.sl, Puzz.tr, keyB_str, keyB_int, MF, f9, f6, f3, f4, m3, m4, m39, f7, m142, f8, m74, hsl]
      refine split_go 14 (by decide +kernel) ?_
      simp -dsimp -implicitDefEqProofs (disch := first | omega | (simp only [lenr]; done) | (simp only [lenr]; omega)) only [↓amPre, amAll, ↓reduceIte, reduceCtorEq, Nat.reduceEqDiff, Nat.reduceBEq, Nat.reduceAdd, Nat.reduceLeDiff, Nat.reduceSub, Nat.reduceMul, Int.reduceToNat, List.size_toArray, tyF, MM, bu0, ipure, kpure, tpure, sspure, kset, tset, ksnoc, tsnoc, Kind.av, Twist.sl, Twist.tr, Invar.av, stsize, stget, sttl, stapp, stext, tsspure, Model.sl, Model.tr, vset, vsnoc, vpure, Puzz.sl, Puzz.tr, keyB_str, keyB_int, MF, f9, f6, f3, f4, m3, m4, m39, f7, m142, f8, m74, hsl, tfz, kfz]
      refine callP_of (q8) ?_
      simp -dsimp -implicitDefEqProofs (disch := first | omega | (simp only [lenr]; done) | (simp only [lenr]; omega)) only [↓amPre, amAll, ↓reduceIte, reduceCtorEq, Nat.reduceEqDiff, Nat.reduceBEq, Nat.reduceAdd, Nat.reduceLeDiff, Nat.reduceSub, Nat.reduceMul, Int.reduceToNat, List.size_toArray, tyF, MM, bu0, ipure, kpure, tpure, sspure, kset, tset, ksnoc, tsnoc, Kind.av, Twist.sl, Twist.tr, Invar.av, stsize, stget, sttl, stapp, stext, tsspure, Model.sl, Model.tr, vset, vsnoc, vpure, Puzz.sl, Puzz.tr, keyB_str, keyB_int, MF, f9, f6, f3, f4, m3, m4, m39, f7, m142, f8, m74, hsl, h3]
      refine ⟨by omega, _, ent_ren _ 64 142 (.tup [ttr S', .bl true]) (by simp -dsimp -implicitDefEqProofs (disch := first | omega | (simp only [lenr]; done) | (simp only [lenr]; omega)) only [↓amPre, amAll, ↓reduceIte, reduceCtorEq, Nat.reduceEqDiff, Nat.reduceBEq, Nat.reduceAdd, Nat.reduceLeDiff, Nat.reduceSub, Nat.reduceMul, Int.reduceToNat, List.size_toArray, tyF, MM, bu0, ipure, kpure, tpure, sspure, kset, tset, ksnoc, tsnoc, Kind.av, Twist.sl, Twist.tr, Invar.av, stsize, stget, sttl, stapp, stext, tsspure, Model.sl, Model.tr, vset, vsnoc, vpure, Puzz.sl, Puzz.tr, keyB_str, keyB_int, MF]) (by decide) (by decide) (by decide), ?_⟩
      simp -dsimp -implicitDefEqProofs (disch := first | omega | (simp only [lenr]; done) | (simp only [lenr]; omega)) only [↓amPre, amAll, ↓reduceIte, reduceCtorEq, Nat.reduceEqDiff, Nat.reduceBEq, Nat.reduceAdd, Nat.reduceLeDiff, Nat.reduceSub, Nat.reduceMul, Int.reduceToNat, List.size_toArray, tyF, MM, bu0, ipure, kpure, tpure, sspure, kset, tset, ksnoc, tsnoc, Kind.av, Twist.sl, Twist.tr, Invar.av, stsize, stget, sttl, stapp, stext, tsspure, Model.sl, Model.tr, vset, vsnoc, vpure, Puzz.sl, Puzz.tr, keyB_str, keyB_int, MF, ren_eq, f9, f6, f3, f4, m3, m4, m39, f7, m142, f8, m74, hsl, h3, e1, hl4]
      repeat' (first | omega | rfl | exact i64c (by omega) | exact vic (by omega) | apply And.intro)
  · have hke : k = n := by omega
    subst hke
    have c1 : ((k : Nat) : Int) - (k : Nat) ≤ 0 := by omega
    obtain ⟨N, hN⟩ : ∃ N : Nat, P.n = N := ⟨_, hPn⟩
    have hPm : P.mv.length = m.mv.length := by rw [← hP0]; simp [cmpP]
    have hw : wordOk P.mv.length (cmK m d1 k).2.2 := ⟨by omega, fun x hx => by have := h4 x hx; unfold letOk; omega⟩
    have hv : ∀ x ∈ (cmK m d1 k).2.2, intOk x := fun x hx => by have := h4 x hx; unfold intOk; omega
    have hn20 := hP.1.1
    have hid : moveOk P.n (runI 0 N) := ⟨by rw [runI_len]; omega, run_perm (by omega) (by omega)⟩
    have q8 := w6Id N (by omega)
    have q9 := sApplyWord P (runI 0 N) (cmK m d1 k).2.2 hPs hP hid hw hv
    rw [h3, ← h5] at q9
    have hpl := permOf_len h2
    have hpe : moveOk P.n (permOf m.ks (cmK m d1 k).2.1) := by rw [h5]; exact effK_ok hP.1 hw k (by omega)
    rw [comp_id hpe.2 (by have := hpe.1; omega)] at q9
    have hPsl : P.sl = .agg [.i64 N, .st P.nm, ssl P.mv] := by rw [Puzz.sl, hN]
    rw [hPsl] at q9
    have q10 := iPiecesToPerm m.ks (cmK m d1 k).2.1 (by omega) (psOk_small h2)
    have hpr : permR m.ks (cmK m d1 k).2.1 = permOf m.ks (cmK m d1 k).2.1 := if_pos h2
    rw [hpr, decide_eq_true h2] at q10
    have hp20 := permOf_le h2
    have q11 := Draws.likeInts (permOf m.ks (cmK m d1 k).2.1) (permOf m.ks (cmK m d1 k).2.1) (by omega)
    have hrl := runI_len 0 N
    generalize permOf m.ks (cmK m d1 k).2.1 = X at *
    generalize (cmK m d1 k).1 = D at *
    generalize (cmK m d1 k).2.1 = S at *
    generalize (cmK m d1 k).2.2 = w at *
    rcases ek with ⟨hk0, f7, m42, f8, m43⟩ | ⟨hk0, f7, m142, f8, m74⟩
    · obtain rfl : w = [] := List.eq_nil_of_length_eq_zero (by omega)
      simp -dsimp -implicitDefEqProofs (disch := first | omega | (simp only [lenr]; done) | (simp only [lenr]; omega)) only [↓amPre, amAll, ↓reduceIte, reduceCtorEq, Nat.reduceEqDiff, Nat.reduceBEq, Nat.reduceAdd, Nat.reduceLeDiff, Nat.reduceSub, Nat.reduceMul, Int.reduceToNat, List.size_toArray, tyF, MM, bu0, ipure, kpure, tpure, sspure, kset, tset, ksnoc, tsnoc, Kind.av, Twist.sl, Twist.tr, Invar.av, stsize, stget, sttl, stapp, stext, tsspure, Model.sl, Model.tr, vset, vsnoc, vpure, Puzz.sl, Puzz.tr, keyB_str, keyB_int, MF, f9, f6, f3, f4, m3, m4, m39, f7, m42, f8, m43, lt_false c1, hN]
      refine made_go 10 [[], [], [], [], [], [79], [], [], [], []] (by decide +kernel) ?_
      simp -dsimp -implicitDefEqProofs (disch := first | omega | (simp only [lenr]; done) | (simp only [lenr]; omega)) only [↓amPre, amAll, ↓reduceIte, reduceCtorEq, Nat.reduceEqDiff, Nat.reduceBEq, Nat.reduceAdd, Nat.reduceLeDiff, Nat.reduceSub, Nat.reduceMul, Int.reduceToNat, List.size_toArray, tyF, MM, bu0, ipure, kpure, tpure, sspure, kset, tset, ksnoc, tsnoc, Kind.av, Twist.sl, Twist.tr, Invar.av, stsize, stget, sttl, stapp, stext, tsspure, Model.sl, Model.tr, vset, vsnoc, vpure, Puzz.sl, Puzz.tr, keyB_str, keyB_int, MF, f9, f6, f3, f4, m3, m4, m39, f7, m42, f8, m43, hN]
      refine callP_of (q8) ?_
      simp -dsimp -implicitDefEqProofs (disch := first | omega | (simp only [lenr]; done) | (simp only [lenr]; omega)) only [↓amPre, amAll, ↓reduceIte, reduceCtorEq, Nat.reduceEqDiff, Nat.reduceBEq, Nat.reduceAdd, Nat.reduceLeDiff, Nat.reduceSub, Nat.reduceMul, Int.reduceToNat, List.size_toArray, tyF, MM, bu0, ipure, kpure, tpure, sspure, kset, tset, ksnoc, tsnoc, Kind.av, Twist.sl, Twist.tr, Invar.av, stsize, stget, sttl, stapp, stext, tsspure, Model.sl, Model.tr, vset, vsnoc, vpure, Puzz.sl, Puzz.tr, keyB_str, keyB_int, MF, f9, f6, f3, f4, m3, m4, m39, f7, m42, f8, m43, hN, ssfz, hrl]
      refine callP_of (q9) ?_
      simp -dsimp -implicitDefEqProofs (disch := first | omega | (simp only [lenr]; done) | (simp only [lenr]; omega)) only [↓amPre, amAll, ↓reduceIte, reduceCtorEq, Nat.reduceEqDiff, Nat.reduceBEq, Nat.reduceAdd, Nat.reduceLeDiff, Nat.reduceSub, Nat.reduceMul, Int.reduceToNat, List.size_toArray, tyF, MM, bu0, ipure, kpure, tpure, sspure, kset, tset, ksnoc, tsnoc, Kind.av, Twist.sl, Twist.tr, Invar.av, stsize, stget, sttl, stapp, stext, tsspure, Model.sl, Model.tr, vset, vsnoc, vpure, Puzz.sl, Puzz.tr, keyB_str, keyB_int, MF, f9, f6, f3, f4, m3, m4, m39, f7, m42, f8, m43, hN, kfz, tfz, hsl]
      refine callP_of (q10) ?_
      simp -dsimp -implicitDefEqProofs (disch := first | omega | (simp only [lenr]; done) | (simp only [lenr]; omega)) only [↓amPre, amAll, ↓reduceIte, reduceCtorEq, Nat.reduceEqDiff, Nat.reduceBEq, Nat.reduceAdd, Nat.reduceLeDiff, Nat.reduceSub, Nat.reduceMul, Int.reduceToNat, List.size_toArray, tyF, MM, bu0, ipure, kpure, tpure, sspure, kset, tset, ksnoc, tsnoc, Kind.av, Twist.sl, Twist.tr, Invar.av, stsize, stget, sttl, stapp, stext, tsspure, Model.sl, Model.tr, vset, vsnoc, vpure, Puzz.sl, Puzz.tr, keyB_str, keyB_int, MF]
      refine callP_of (q11) ?_
      simp -dsimp -implicitDefEqProofs (disch := first | omega | (simp only [lenr]; done) | (simp only [lenr]; omega)) only [↓amPre, amAll, ↓reduceIte, reduceCtorEq, Nat.reduceEqDiff, Nat.reduceBEq, Nat.reduceAdd, Nat.reduceLeDiff, Nat.reduceSub, Nat.reduceMul, Int.reduceToNat, List.size_toArray, tyF, MM, bu0, ipure, kpure, tpure, sspure, kset, tset, ksnoc, tsnoc, Kind.av, Twist.sl, Twist.tr, Invar.av, stsize, stget, sttl, stapp, stext, tsspure, Model.sl, Model.tr, vset, vsnoc, vpure, Puzz.sl, Puzz.tr, keyB_str, keyB_int, MF]
    · simp -dsimp -implicitDefEqProofs (disch := first | omega | (simp only [lenr]; done) | (simp only [lenr]; omega)) only [↓amPre, amAll, ↓reduceIte, reduceCtorEq, Nat.reduceEqDiff, Nat.reduceBEq, Nat.reduceAdd, Nat.reduceLeDiff, Nat.reduceSub, Nat.reduceMul, Int.reduceToNat, List.size_toArray, tyF, MM, bu0, ipure, kpure, tpure, sspure, kset, tset, ksnoc, tsnoc, Kind.av, Twist.sl, Twist.tr, Invar.av, stsize, stget, sttl, stapp, stext, tsspure, Model.sl, Model.tr, vset, vsnoc, vpure, Puzz.sl, Puzz.tr, keyB_str, keyB_int, MF, f9, f6, f3, f4, m3, m4, m39, f7, m142, f8, m74, lt_false c1, hN]
      refine made_go 10 [[], [], [], [], [], [79], [], [], [], []] (by decide +kernel) ?_
      simp -dsimp -implicitDefEqProofs (disch := first | omega | (simp only [lenr]; done) | (simp only [lenr]; omega)) only [↓amPre, amAll, ↓reduceIte, reduceCtorEq, Nat.reduceEqDiff, Nat.reduceBEq, Nat.reduceAdd, Nat.reduceLeDiff, Nat.reduceSub, Nat.reduceMul, Int.reduceToNat, List.size_toArray, tyF, MM, bu0, ipure, kpure, tpure, sspure, kset, tset, ksnoc, tsnoc, Kind.av, Twist.sl, Twist.tr, Invar.av, stsize, stget, sttl, stapp, stext, tsspure, Model.sl, Model.tr, vset, vsnoc, vpure, Puzz.sl, Puzz.tr, keyB_str, keyB_int, MF, f9, f6, f3, f4, m3, m4, m39, f7, m142, f8, m74, hN]
      refine callP_of (q8) ?_
      simp -dsimp -implicitDefEqProofs (disch := first | omega | (simp only [lenr]; done) | (simp only [lenr]; omega)) only [↓amPre, amAll, ↓reduceIte, reduceCtorEq, Nat.reduceEqDiff, Nat.reduceBEq, Nat.reduceAdd, Nat.reduceLeDiff, Nat.reduceSub, Nat.reduceMul, Int.reduceToNat, List.size_toArray, tyF, MM, bu0, ipure, kpure, tpure, sspure, kset, tset, ksnoc, tsnoc, Kind.av, Twist.sl, Twist.tr, Invar.av, stsize, stget, sttl, stapp, stext, tsspure, Model.sl, Model.tr, vset, vsnoc, vpure, Puzz.sl, Puzz.tr, keyB_str, keyB_int, MF, f9, f6, f3, f4, m3, m4, m39, f7, m142, f8, m74, hN, ssfz, hrl, h3]
      refine callP_of (q9) ?_
      simp -dsimp -implicitDefEqProofs (disch := first | omega | (simp only [lenr]; done) | (simp only [lenr]; omega)) only [↓amPre, amAll, ↓reduceIte, reduceCtorEq, Nat.reduceEqDiff, Nat.reduceBEq, Nat.reduceAdd, Nat.reduceLeDiff, Nat.reduceSub, Nat.reduceMul, Int.reduceToNat, List.size_toArray, tyF, MM, bu0, ipure, kpure, tpure, sspure, kset, tset, ksnoc, tsnoc, Kind.av, Twist.sl, Twist.tr, Invar.av, stsize, stget, sttl, stapp, stext, tsspure, Model.sl, Model.tr, vset, vsnoc, vpure, Puzz.sl, Puzz.tr, keyB_str, keyB_int, MF, f9, f6, f3, f4, m3, m4, m39, f7, m142, f8, m74, hN, kfz, tfz, hsl]
      refine callP_of (q10) ?_
      simp -dsimp -implicitDefEqProofs (disch := first | omega | (simp only [lenr]; done) | (simp only [lenr]; omega)) only [↓amPre, amAll, ↓reduceIte, reduceCtorEq, Nat.reduceEqDiff, Nat.reduceBEq, Nat.reduceAdd, Nat.reduceLeDiff, Nat.reduceSub, Nat.reduceMul, Int.reduceToNat, List.size_toArray, tyF, MM, bu0, ipure, kpure, tpure, sspure, kset, tset, ksnoc, tsnoc, Kind.av, Twist.sl, Twist.tr, Invar.av, stsize, stget, sttl, stapp, stext, tsspure, Model.sl, Model.tr, vset, vsnoc, vpure, Puzz.sl, Puzz.tr, keyB_str, keyB_int, MF]
      refine callP_of (q11) ?_
      simp -dsimp -implicitDefEqProofs (disch := first | omega | (simp only [lenr]; done) | (simp only [lenr]; omega)) only [↓amPre, amAll, ↓reduceIte, reduceCtorEq, Nat.reduceEqDiff, Nat.reduceBEq, Nat.reduceAdd, Nat.reduceLeDiff, Nat.reduceSub, Nat.reduceMul, Int.reduceToNat, List.size_toArray, tyF, MM, bu0, ipure, kpure, tpure, sspure, kset, tset, ksnoc, tsnoc, Kind.av, Twist.sl, Twist.tr, Invar.av, stsize, stget, sttl, stapp, stext, tsspure, Model.sl, Model.tr, vset, vsnoc, vpure, Puzz.sl, Puzz.tr, keyB_str, keyB_int, MF]
end Dice
end Go.AM

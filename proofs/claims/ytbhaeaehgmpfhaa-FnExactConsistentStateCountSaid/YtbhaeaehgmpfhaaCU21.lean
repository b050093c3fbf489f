/-
  CONTRACTS of functions of the program, and what they compute, by content.
-/
import Derived.Test.YtbhaeaehgmpfhaaCU20
set_option linter.unusedVariables false
set_option linter.unusedSimpArgs false
set_option maxRecDepth 8000
namespace Go.AM
open Go.Proofs
theorem sl22Conserved (m : Model) (h : smallM m) (c : modelOk m) : SpecAt Try.prog 121 [m.sl] (vtr (consL m)) := by
  have hle := consL_le m c
  have hl3 := c.1.1.2
  have hpw := pow_small hl3
  refine spec_of_awp (M := MM) (np := 1) (fz := false) mixed Try.func121 rfl rfl (by decide) rfl (Nat.le_refl _) (by decide +kernel) (.inl rfl) (by first | trivial | simp only [sigsOk_nil, sigsOk_some, sigsOk_none, sig_tr, sig_pt, sig_mt, sig_agg, List.map_cons, List.map_nil, sig1_tr, sig1_pt, sig1_v, and_self, true_and, List.length_map, List.length_set]) ?_
  simp -dsimp -implicitDefEqProofs (disch := first | omega | (simp only [lenr]; done) | (simp only [lenr]; omega)) only [↓amPre, amPost0, amPost1, amPost2, amPost3, ↓reduceIte, reduceCtorEq, Nat.reduceEqDiff, Nat.reduceBEq, Nat.reduceAdd, Nat.reduceLeDiff, Nat.reduceSub, Nat.reduceMul, Int.reduceToNat, List.size_toArray, tyF, MM, bu0, ipure, kpure, tpure, sspure, kset, tset, ksnoc, tsnoc, Kind.av, Twist.sl, Twist.tr, Invar.av, stsize, stget, sttl, stapp, stext, tsspure, Model.sl, Model.tr, vset, vsnoc, vpure]
  refine awp_loopR 8 33 (.tr 2 []) (by simp -dsimp -implicitDefEqProofs (disch := first | omega | (simp only [lenr]; done) | (simp only [lenr]; omega)) only [↓amPre, amPost0, amPost1, amPost2, amPost3, ↓reduceIte, reduceCtorEq, Nat.reduceEqDiff, Nat.reduceBEq, Nat.reduceAdd, Nat.reduceLeDiff, Nat.reduceSub, Nat.reduceMul, Int.reduceToNat, List.size_toArray, tyF, MM, bu0, ipure, kpure, tpure, sspure, kset, tset, ksnoc, tsnoc, Kind.av, Twist.sl, Twist.tr, Invar.av, stsize, stget, sttl, stapp, stext, tsspure, Model.sl, Model.tr, vset, vsnoc, vpure]) (by decide) (by decide) (by decide) (fun k st => k ≤ m.ks.length ∧ st.fr 4 = .i64 k ∧ st.fr 3 = .ref 33 [] 2 0 ((twL k).filter (keepI m)).length ∧ st.fr 1 = .loc 1 [] 0 0 ∧ st.mem 33 = some (vtr ((twL k).filter (keepI m))) ∧ st.mem 1 = some (.pt 3 (.agg [ksl m.ks, .st m.nm, tssl m.mv]))) (m.ks.length) ?_ ?_
  · simp -dsimp -implicitDefEqProofs (disch := first | omega | (simp only [lenr]; done) | (simp only [lenr]; omega)) only [↓amPre, amPost0, amPost1, amPost2, amPost3, ↓reduceIte, reduceCtorEq, Nat.reduceEqDiff, Nat.reduceBEq, Nat.reduceAdd, Nat.reduceLeDiff, Nat.reduceSub, Nat.reduceMul, Int.reduceToNat, List.size_toArray, tyF, MM, bu0, ipure, kpure, tpure, sspure, kset, tset, ksnoc, tsnoc, Kind.av, Twist.sl, Twist.tr, Invar.av, stsize, stget, sttl, stapp, stext, tsspure, Model.sl, Model.tr, vset, vsnoc, vpure, ren_eq]
    simp [twL]
  rintro k st _ ⟨hk, f4, f3, f1, m33, m1⟩
  have hfl : ((twL k).filter (keepI m)).length ≤ k := by
    have a1 := List.length_filter_le (keepI m) (twL k)
    rw [twL_len] at a1; exact a1
  have hfs := filter_snoc (keepI m) (twL k) ⟨1, (k : Int)⟩
  rw [← twL_succ] at hfs
  generalize hL : (twL k).filter (keepI m) = L at hfl f3 m33 hfs
  by_cases hlt : k < m.ks.length
  · have hok := c.1.2.1 _ (mem_getD m.ks k default hlt)
    have htr : trivI m.ks ⟨1, (k : Int)⟩ = decide ((m.ks.getD k default).o = 1) := rfl
    by_cases t1 : 1 < (m.ks.getD k default).o
    case neg =>
      have hk : keepI m ⟨1, (k : Int)⟩ = false := by
        rw [keepI, htr, decide_eq_true (by have := hok.2; omega)]; rfl
      rw [hk, if_neg (by simp)] at hfs
      simp -dsimp -implicitDefEqProofs (disch := first | omega | (simp only [lenr]; done) | (simp only [lenr]; omega)) only [↓amPre, amPost0, amPost1, amPost2, amPost3, ↓reduceIte, reduceCtorEq, Nat.reduceEqDiff, Nat.reduceBEq, Nat.reduceAdd, Nat.reduceLeDiff, Nat.reduceSub, Nat.reduceMul, Int.reduceToNat, List.size_toArray, tyF, MM, bu0, ipure, kpure, tpure, sspure, kset, tset, ksnoc, tsnoc, Kind.av, Twist.sl, Twist.tr, Invar.av, stsize, stget, sttl, stapp, stext, tsspure, Model.sl, Model.tr, vset, vsnoc, vpure, f4, f3, f1, m33, m1, lt_false (Int.not_lt.1 t1), hfs]
      repeat' (first | omega | rfl | exact i64c (by omega) | exact vic (by omega) | apply And.intro)
    have hn1 : decide ((m.ks.getD k default).o = 1) = false := decide_eq_false (by omega)
    simp -dsimp -implicitDefEqProofs (disch := first | omega | (simp only [lenr]; done) | (simp only [lenr]; omega)) only [↓amPre, amPost0, amPost1, amPost2, amPost3, ↓reduceIte, reduceCtorEq, Nat.reduceEqDiff, Nat.reduceBEq, Nat.reduceAdd, Nat.reduceLeDiff, Nat.reduceSub, Nat.reduceMul, Int.reduceToNat, List.size_toArray, tyF, MM, bu0, ipure, kpure, tpure, sspure, kset, tset, ksnoc, tsnoc, Kind.av, Twist.sl, Twist.tr, Invar.av, stsize, stget, sttl, stapp, stext, tsspure, Model.sl, Model.tr, vset, vsnoc, vpure, f4, f3, f1, m33, m1, lt_true t1]
    refine callP_of (sIsConserved m ⟨1, (k : Int)⟩ h (by unfold intOk; simp only; omega)) ?_
    by_cases t2 : consM m ⟨1, (k : Int)⟩
    · have hk : keepI m ⟨1, (k : Int)⟩ = true := by rw [keepI, htr, hn1, decide_eq_true t2]; rfl
      rw [hk, if_pos rfl] at hfs
      have hll2 : ((twL (k + 1)).filter (keepI m)).length = L.length + 1 := by rw [hfs]; simp
      simp -dsimp -implicitDefEqProofs (disch := first | omega | (simp only [lenr]; done) | (simp only [lenr]; omega)) only [↓amPre, amPost0, amPost1, amPost2, amPost3, ↓reduceIte, reduceCtorEq, Nat.reduceEqDiff, Nat.reduceBEq, Nat.reduceAdd, Nat.reduceLeDiff, Nat.reduceSub, Nat.reduceMul, Int.reduceToNat, List.size_toArray, tyF, MM, bu0, ipure, kpure, tpure, sspure, kset, tset, ksnoc, tsnoc, Kind.av, Twist.sl, Twist.tr, Invar.av, stsize, stget, sttl, stapp, stext, tsspure, Model.sl, Model.tr, vset, vsnoc, vpure, f4, f3, f1, m33, m1, lt_true t1, t2, ← hfs, hll2]
      repeat' (first | omega | rfl | exact i64c (by omega) | exact vic (by omega) | apply And.intro)
    · have hk : keepI m ⟨1, (k : Int)⟩ = false := by rw [keepI, decide_eq_false t2]; simp
      rw [hk, if_neg (by simp)] at hfs
      simp -dsimp -implicitDefEqProofs (disch := first | omega | (simp only [lenr]; done) | (simp only [lenr]; omega)) only [↓amPre, amPost0, amPost1, amPost2, amPost3, ↓reduceIte, reduceCtorEq, Nat.reduceEqDiff, Nat.reduceBEq, Nat.reduceAdd, Nat.reduceLeDiff, Nat.reduceSub, Nat.reduceMul, Int.reduceToNat, List.size_toArray, tyF, MM, bu0, ipure, kpure, tpure, sspure, kset, tset, ksnoc, tsnoc, Kind.av, Twist.sl, Twist.tr, Invar.av, stsize, stget, sttl, stapp, stext, tsspure, Model.sl, Model.tr, vset, vsnoc, vpure, f4, f3, f1, m33, m1, lt_true t1, t2, hfs]
      repeat' (first | omega | rfl | exact i64c (by omega) | exact vic (by omega) | apply And.intro)
  have hke : k = m.ks.length := by omega
  subst hke
  simp -dsimp -implicitDefEqProofs (disch := first | omega | (simp only [lenr]; done) | (simp only [lenr]; omega)) only [↓amPre, amPost0, amPost1, amPost2, amPost3, ↓reduceIte, reduceCtorEq, Nat.reduceEqDiff, Nat.reduceBEq, Nat.reduceAdd, Nat.reduceLeDiff, Nat.reduceSub, Nat.reduceMul, Int.reduceToNat, List.size_toArray, tyF, MM, bu0, ipure, kpure, tpure, sspure, kset, tset, ksnoc, tsnoc, Kind.av, Twist.sl, Twist.tr, Invar.av, stsize, stget, sttl, stapp, stext, tsspure, Model.sl, Model.tr, vset, vsnoc, vpure, f4, f3, f1, m33, m1]
  refine awp_loopR 33 56 (vtr L) (by simp -dsimp -implicitDefEqProofs (disch := first | omega | (simp only [lenr]; done) | (simp only [lenr]; omega)) only [↓amPre, amPost0, amPost1, amPost2, amPost3, ↓reduceIte, reduceCtorEq, Nat.reduceEqDiff, Nat.reduceBEq, Nat.reduceAdd, Nat.reduceLeDiff, Nat.reduceSub, Nat.reduceMul, Int.reduceToNat, List.size_toArray, tyF, MM, bu0, ipure, kpure, tpure, sspure, kset, tset, ksnoc, tsnoc, Kind.av, Twist.sl, Twist.tr, Invar.av, stsize, stget, sttl, stapp, stext, tsspure, Model.sl, Model.tr, vset, vsnoc, vpure, f4, f3, f1, m33, m1]) (by decide) (by decide) (by decide) (fun j st => j ≤ (2 ^ m.ks.length - 1) ∧ st.fr 6 = .i64 (j + 1 : Nat) ∧ st.fr 3 = .ref 56 [] 2 0 ((twL m.ks.length ++ paL j).filter (keepI m)).length ∧ st.fr 1 = .loc 1 [] 0 0 ∧ st.mem 56 = some (vtr ((twL m.ks.length ++ paL j).filter (keepI m))) ∧ st.mem 1 = some (.pt 3 (.agg [ksl m.ks, .st m.nm, tssl m.mv]))) ((2 ^ m.ks.length - 1)) ?_ ?_
  · simp -dsimp -implicitDefEqProofs (disch := first | omega | (simp only [lenr]; done) | (simp only [lenr]; omega)) only [↓amPre, amPost0, amPost1, amPost2, amPost3, ↓reduceIte, reduceCtorEq, Nat.reduceEqDiff, Nat.reduceBEq, Nat.reduceAdd, Nat.reduceLeDiff, Nat.reduceSub, Nat.reduceMul, Int.reduceToNat, List.size_toArray, tyF, MM, bu0, ipure, kpure, tpure, sspure, kset, tset, ksnoc, tsnoc, Kind.av, Twist.sl, Twist.tr, Invar.av, stsize, stget, sttl, stapp, stext, tsspure, Model.sl, Model.tr, vset, vsnoc, vpure, ren_eq, f4, f3, f1, m33, m1]
    simp [paL, hL]
  rintro j st _ ⟨hj, f6, f3, f1, m56, m1⟩
  have hfl2 : ((twL m.ks.length ++ paL j).filter (keepI m)).length ≤ m.ks.length + j := by
    have a1 := List.length_filter_le (keepI m) (twL m.ks.length ++ paL j)
    rw [List.length_append, twL_len, paL_len] at a1; exact a1
  have hfs2 := filter_snoc (keepI m) (twL m.ks.length ++ paL j) ⟨2, ((j + 1 : Nat) : Int)⟩
  rw [List.append_assoc, ← paL_succ] at hfs2
  by_cases hlt : j < 2 ^ m.ks.length - 1
  · have h2 : (((j + 1 : Nat) : Int) < ((2 ^ m.ks.length : Nat) : Int)) := by omega
    have htr : trivI m.ks ⟨2, ((j + 1 : Nat) : Int)⟩ = trivK m.ks ((j + 1 : Nat) : Int) m.ks.length := rfl
    generalize hL2 : (twL m.ks.length ++ paL j).filter (keepI m) = L2 at hfl2 f3 m56 hfs2
    simp -dsimp -implicitDefEqProofs (disch := first | omega | (simp only [lenr]; done) | (simp only [lenr]; omega)) only [↓amPre, amPost0, amPost1, amPost2, amPost3, ↓reduceIte, reduceCtorEq, Nat.reduceEqDiff, Nat.reduceBEq, Nat.reduceAdd, Nat.reduceLeDiff, Nat.reduceSub, Nat.reduceMul, Int.reduceToNat, List.size_toArray, tyF, MM, bu0, ipure, kpure, tpure, sspure, kset, tset, ksnoc, tsnoc, Kind.av, Twist.sl, Twist.tr, Invar.av, stsize, stget, sttl, stapp, stext, tsspure, Model.sl, Model.tr, vset, vsnoc, vpure, f6, f3, f1, m56, m1]
    refine callP_of (sl22Sets m.ks c.1) ?_
    simp -dsimp -implicitDefEqProofs (disch := first | omega | (simp only [lenr]; done) | (simp only [lenr]; omega)) only [↓amPre, amPost0, amPost1, amPost2, amPost3, ↓reduceIte, reduceCtorEq, Nat.reduceEqDiff, Nat.reduceBEq, Nat.reduceAdd, Nat.reduceLeDiff, Nat.reduceSub, Nat.reduceMul, Int.reduceToNat, List.size_toArray, tyF, MM, bu0, ipure, kpure, tpure, sspure, kset, tset, ksnoc, tsnoc, Kind.av, Twist.sl, Twist.tr, Invar.av, stsize, stget, sttl, stapp, stext, tsspure, Model.sl, Model.tr, vset, vsnoc, vpure, f6, f3, f1, m56, m1, lt_true h2]
    refine callP_of (sTrivial m.ks _ hl3) ?_
    cases t1 : trivK m.ks ((j + 1 : Nat) : Int) m.ks.length with
    | true =>
      have hk : keepI m ⟨2, ((j + 1 : Nat) : Int)⟩ = false := by rw [keepI, htr, t1]; rfl
      rw [hk, if_neg (by simp)] at hfs2
      simp -dsimp -implicitDefEqProofs (disch := first | omega | (simp only [lenr]; done) | (simp only [lenr]; omega)) only [↓amPre, amPost0, amPost1, amPost2, amPost3, ↓reduceIte, reduceCtorEq, Nat.reduceEqDiff, Nat.reduceBEq, Nat.reduceAdd, Nat.reduceLeDiff, Nat.reduceSub, Nat.reduceMul, Int.reduceToNat, List.size_toArray, tyF, MM, bu0, ipure, kpure, tpure, sspure, kset, tset, ksnoc, tsnoc, Kind.av, Twist.sl, Twist.tr, Invar.av, stsize, stget, sttl, stapp, stext, tsspure, Model.sl, Model.tr, vset, vsnoc, vpure, f6, f3, f1, m56, m1, t1, hfs2]
      repeat' (first | omega | rfl | exact i64c (by omega) | exact vic (by omega) | apply And.intro)
    | false =>
      simp -dsimp -implicitDefEqProofs (disch := first | omega | (simp only [lenr]; done) | (simp only [lenr]; omega)) only [↓amPre, amPost0, amPost1, amPost2, amPost3, ↓reduceIte, reduceCtorEq, Nat.reduceEqDiff, Nat.reduceBEq, Nat.reduceAdd, Nat.reduceLeDiff, Nat.reduceSub, Nat.reduceMul, Int.reduceToNat, List.size_toArray, tyF, MM, bu0, ipure, kpure, tpure, sspure, kset, tset, ksnoc, tsnoc, Kind.av, Twist.sl, Twist.tr, Invar.av, stsize, stget, sttl, stapp, stext, tsspure, Model.sl, Model.tr, vset, vsnoc, vpure, f6, f3, f1, m56, m1, t1]
      refine callP_of (sIsConserved m ⟨2, ((j + 1 : Nat) : Int)⟩ h (by unfold intOk; simp only; omega)) ?_
      by_cases t2 : consM m ⟨2, ((j + 1 : Nat) : Int)⟩
      · have hk : keepI m ⟨2, ((j + 1 : Nat) : Int)⟩ = true := by rw [keepI, htr, t1, decide_eq_true t2]; rfl
        rw [hk, if_pos rfl] at hfs2
        have hll2 : ((twL m.ks.length ++ paL (j + 1)).filter (keepI m)).length = L2.length + 1 := by rw [hfs2]; simp
        simp -dsimp -implicitDefEqProofs (disch := first | omega | (simp only [lenr]; done) | (simp only [lenr]; omega)) only [↓amPre, amPost0, amPost1, amPost2, amPost3, ↓reduceIte, reduceCtorEq, Nat.reduceEqDiff, Nat.reduceBEq, Nat.reduceAdd, Nat.reduceLeDiff, Nat.reduceSub, Nat.reduceMul, Int.reduceToNat, List.size_toArray, tyF, MM, bu0, ipure, kpure, tpure, sspure, kset, tset, ksnoc, tsnoc, Kind.av, Twist.sl, Twist.tr, Invar.av, stsize, stget, sttl, stapp, stext, tsspure, Model.sl, Model.tr, vset, vsnoc, vpure, f6, f3, f1, m56, m1, t1, t2, ← hfs2, hll2]
        repeat' (first | omega | rfl | exact i64c (by omega) | exact vic (by omega) | apply And.intro)
      · have hk : keepI m ⟨2, ((j + 1 : Nat) : Int)⟩ = false := by rw [keepI, decide_eq_false t2]; simp
        rw [hk, if_neg (by simp)] at hfs2
        simp -dsimp -implicitDefEqProofs (disch := first | omega | (simp only [lenr]; done) | (simp only [lenr]; omega)) only [↓amPre, amPost0, amPost1, amPost2, amPost3, ↓reduceIte, reduceCtorEq, Nat.reduceEqDiff, Nat.reduceBEq, Nat.reduceAdd, Nat.reduceLeDiff, Nat.reduceSub, Nat.reduceMul, Int.reduceToNat, List.size_toArray, tyF, MM, bu0, ipure, kpure, tpure, sspure, kset, tset, ksnoc, tsnoc, Kind.av, Twist.sl, Twist.tr, Invar.av, stsize, stget, sttl, stapp, stext, tsspure, Model.sl, Model.tr, vset, vsnoc, vpure, f6, f3, f1, m56, m1, t1, t2, hfs2]
        repeat' (first | omega | rfl | exact i64c (by omega) | exact vic (by omega) | apply And.intro)
  have hje : j = 2 ^ m.ks.length - 1 := by omega
  have h2 : (((2 ^ m.ks.length : Nat) : Int) ≤ ((j + 1 : Nat) : Int)) := by omega
  have hall : (twL m.ks.length ++ paL j).filter (keepI m) = consL m := by rw [hje]; rfl
  rw [hall] at m56 f3
  simp -dsimp -implicitDefEqProofs (disch := first | omega | (simp only [lenr]; done) | (simp only [lenr]; omega)) only [↓amPre, amPost0, amPost1, amPost2, amPost3, ↓reduceIte, reduceCtorEq, Nat.reduceEqDiff, Nat.reduceBEq, Nat.reduceAdd, Nat.reduceLeDiff, Nat.reduceSub, Nat.reduceMul, Int.reduceToNat, List.size_toArray, tyF, MM, bu0, ipure, kpure, tpure, sspure, kset, tset, ksnoc, tsnoc, Kind.av, Twist.sl, Twist.tr, Invar.av, stsize, stget, sttl, stapp, stext, tsspure, Model.sl, Model.tr, vset, vsnoc, vpure, f6, f3, f1, m56, m1]
  refine callP_of (sl22Sets m.ks c.1) ?_
  simp -dsimp -implicitDefEqProofs (disch := first | omega | (simp only [lenr]; done) | (simp only [lenr]; omega)) only [↓amPre, amPost0, amPost1, amPost2, amPost3, ↓reduceIte, reduceCtorEq, Nat.reduceEqDiff, Nat.reduceBEq, Nat.reduceAdd, Nat.reduceLeDiff, Nat.reduceSub, Nat.reduceMul, Int.reduceToNat, List.size_toArray, tyF, MM, bu0, ipure, kpure, tpure, sspure, kset, tset, ksnoc, tsnoc, Kind.av, Twist.sl, Twist.tr, Invar.av, stsize, stget, sttl, stapp, stext, tsspure, Model.sl, Model.tr, vset, vsnoc, vpure, f6, f3, f1, m56, m1, lt_false h2]
end Go.AM

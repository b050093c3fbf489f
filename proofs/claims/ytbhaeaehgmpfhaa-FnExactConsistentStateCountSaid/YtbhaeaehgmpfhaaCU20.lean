/-
  CONTRACTS of functions of the program, and what they compute, by content.
-/
import Derived.Test.YtbhaeaehgmpfhaaCU19
set_option linter.unusedVariables false
set_option linter.unusedSimpArgs false
set_option maxRecDepth 8000
namespace Go.AM
open Go.Proofs
/-- is an invariant told? -/
def keepI (m : Model) (i : Invar) : Bool := !trivI m.ks i && decide (consM m i)
def allI (ks : List Kind) : List Invar := twL ks.length ++ paL (2 ^ ks.length - 1)
def consL (m : Model) : List Invar := (allI m.ks).filter (keepI m)
def consR (m : Model) : List Invar := if modelOk m then consL m else []
theorem allI_len (ks : List Kind) : (allI ks).length = ks.length + (2 ^ ks.length - 1) := by rw [allI, List.length_append, twL_len, paL_len]
theorem consL_le (m : Model) (h : modelOk m) : (consL m).length ≤ 10 := by
  have h1 := List.length_filter_le (keepI m) (allI m.ks)
  have h2 := pow_small h.1.1.2
  have h3 := h.1.1.2
  rw [allI_len] at h1
  unfold consL
  omega
theorem iConserved (m : Model) (h : smallM m) : SpecAt Try.prog 128 [m.sl] (vtr (consR m)) := by
  have hb : IntKind.i64.bits = 64 := rfl
  refine spec_of_awp (M := MM) (np := 1) (fz := false) mixed Try.func128 rfl rfl (by decide) rfl (Nat.le_refl _) (by decide +kernel) (.inl rfl) (by first | trivial | simp only [sigsOk_nil, sigsOk_some, sigsOk_none, sig_tr, sig_pt, sig_mt, sig_agg, List.map_cons, List.map_nil, sig1_tr, sig1_pt, sig1_v, and_self, true_and, List.length_map, List.length_set]) ?_
  simp -dsimp -implicitDefEqProofs (disch := first | omega | (simp only [lenr]; done) | (simp only [lenr]; omega)) only [↓amPre, amPost0, amPost1, amPost2, amPost3, ↓reduceIte, reduceCtorEq, Nat.reduceEqDiff, Nat.reduceBEq, Nat.reduceAdd, Nat.reduceLeDiff, Nat.reduceSub, Nat.reduceMul, Int.reduceToNat, List.size_toArray, tyF, MM, bu0, ipure, kpure, tpure, sspure, kset, tset, ksnoc, tsnoc, Kind.av, Twist.sl, Twist.tr, Invar.av, stsize, stget, sttl, stapp, stext, tsspure, Model.sl, Model.tr, vset, vsnoc, vpure]
  refine callP_of (iIsValidPieceModel m h) ?_
  by_cases c : modelOk m
  case neg =>
    have hR : consR m = [] := if_neg c
    simp -dsimp -implicitDefEqProofs (disch := first | omega | (simp only [lenr]; done) | (simp only [lenr]; omega)) only [↓amPre, amPost0, amPost1, amPost2, amPost3, ↓reduceIte, reduceCtorEq, Nat.reduceEqDiff, Nat.reduceBEq, Nat.reduceAdd, Nat.reduceLeDiff, Nat.reduceSub, Nat.reduceMul, Int.reduceToNat, List.size_toArray, tyF, MM, bu0, ipure, kpure, tpure, sspure, kset, tset, ksnoc, tsnoc, Kind.av, Twist.sl, Twist.tr, Invar.av, stsize, stget, sttl, stapp, stext, tsspure, Model.sl, Model.tr, vset, vsnoc, vpure, c, hR]
  have hR : consR m = consL m := if_pos c
  have hle := consL_le m c
  have hl3 := c.1.1.2
  have hpw := pow_small hl3
  have hal := allI_len m.ks
  simp -dsimp -implicitDefEqProofs (disch := first | omega | (simp only [lenr]; done) | (simp only [lenr]; omega)) only [↓amPre, amPost0, amPost1, amPost2, amPost3, ↓reduceIte, reduceCtorEq, Nat.reduceEqDiff, Nat.reduceBEq, Nat.reduceAdd, Nat.reduceLeDiff, Nat.reduceSub, Nat.reduceMul, Int.reduceToNat, List.size_toArray, tyF, MM, bu0, ipure, kpure, tpure, sspure, kset, tset, ksnoc, tsnoc, Kind.av, Twist.sl, Twist.tr, Invar.av, stsize, stget, sttl, stapp, stext, tsspure, Model.sl, Model.tr, vset, vsnoc, vpure, c]
  refine callP_of (lenK m.ks) ?_
  simp -dsimp -implicitDefEqProofs (disch := first | omega | (simp only [lenr]; done) | (simp only [lenr]; omega)) only [↓amPre, amPost0, amPost1, amPost2, amPost3, ↓reduceIte, reduceCtorEq, Nat.reduceEqDiff, Nat.reduceBEq, Nat.reduceAdd, Nat.reduceLeDiff, Nat.reduceSub, Nat.reduceMul, Int.reduceToNat, List.size_toArray, tyF, MM, bu0, ipure, kpure, tpure, sspure, kset, tset, ksnoc, tsnoc, Kind.av, Twist.sl, Twist.tr, Invar.av, stsize, stget, sttl, stapp, stext, tsspure, Model.sl, Model.tr, vset, vsnoc, vpure, c]
  refine awp_loopN 3 22 2 (by simp -dsimp -implicitDefEqProofs (disch := first | omega | (simp only [lenr]; done) | (simp only [lenr]; omega)) only [↓amPre, amPost0, amPost1, amPost2, amPost3, ↓reduceIte, reduceCtorEq, Nat.reduceEqDiff, Nat.reduceBEq, Nat.reduceAdd, Nat.reduceLeDiff, Nat.reduceSub, Nat.reduceMul, Int.reduceToNat, List.size_toArray, tyF, MM, bu0, ipure, kpure, tpure, sspure, kset, tset, ksnoc, tsnoc, Kind.av, Twist.sl, Twist.tr, Invar.av, stsize, stget, sttl, stapp, stext, tsspure, Model.sl, Model.tr, vset, vsnoc, vpure]) (by decide) (fun k st => k ≤ m.ks.length ∧ st.fr 15 = .i64 k ∧ st.fr 14 = .i64 m.ks.length ∧ st.fr 3 = .ref 22 [] 2 0 k ∧ st.fr 4 = .nilsl ∧ st.fr 1 = .loc 1 [] 0 0 ∧ st.mem 22 = some (vtr (twL k)) ∧ st.mem 1 = some (.pt 3 (.agg [ksl m.ks, .st m.nm, tssl m.mv]))) (m.ks.length) ?_ ?_
  · simp -dsimp -implicitDefEqProofs (disch := first | omega | (simp only [lenr]; done) | (simp only [lenr]; omega)) only [↓amPre, amPost0, amPost1, amPost2, amPost3, ↓reduceIte, reduceCtorEq, Nat.reduceEqDiff, Nat.reduceBEq, Nat.reduceAdd, Nat.reduceLeDiff, Nat.reduceSub, Nat.reduceMul, Int.reduceToNat, List.size_toArray, tyF, MM, bu0, ipure, kpure, tpure, sspure, kset, tset, ksnoc, tsnoc, Kind.av, Twist.sl, Twist.tr, Invar.av, stsize, stget, sttl, stapp, stext, tsspure, Model.sl, Model.tr, vset, vsnoc, vpure, nilAs_eq]
    simp [twL]
  rintro k st _ ⟨hk, f15, f14, f3, f4, f1, m22, m1⟩
  by_cases hlt : k < m.ks.length
  · have ht := twL_len k
    have hts := twL_succ k
    simp -dsimp -implicitDefEqProofs (disch := first | omega | (simp only [lenr]; done) | (simp only [lenr]; omega)) only [↓amPre, amPost0, amPost1, amPost2, amPost3, ↓reduceIte, reduceCtorEq, Nat.reduceEqDiff, Nat.reduceBEq, Nat.reduceAdd, Nat.reduceLeDiff, Nat.reduceSub, Nat.reduceMul, Int.reduceToNat, List.size_toArray, tyF, MM, bu0, ipure, kpure, tpure, sspure, kset, tset, ksnoc, tsnoc, Kind.av, Twist.sl, Twist.tr, Invar.av, stsize, stget, sttl, stapp, stext, tsspure, Model.sl, Model.tr, vset, vsnoc, vpure, f15, f14, f3, f4, f1, m22, m1, ht, ← hts]
    repeat' (first | omega | rfl | exact i64c (by omega) | exact vic (by omega) | apply And.intro)
  have hke : k = m.ks.length := by omega
  subst hke
  have ht := twL_len m.ks.length
  simp -dsimp -implicitDefEqProofs (disch := first | omega | (simp only [lenr]; done) | (simp only [lenr]; omega)) only [↓amPre, amPost0, amPost1, amPost2, amPost3, ↓reduceIte, reduceCtorEq, Nat.reduceEqDiff, Nat.reduceBEq, Nat.reduceAdd, Nat.reduceLeDiff, Nat.reduceSub, Nat.reduceMul, Int.reduceToNat, List.size_toArray, tyF, MM, bu0, ipure, kpure, tpure, sspure, kset, tset, ksnoc, tsnoc, Kind.av, Twist.sl, Twist.tr, Invar.av, stsize, stget, sttl, stapp, stext, tsspure, Model.sl, Model.tr, vset, vsnoc, vpure, f15, f14, f3, f4, f1, m22, m1]
  refine awp_loopR 22 36 (vtr (twL m.ks.length)) (by simp -dsimp -implicitDefEqProofs (disch := first | omega | (simp only [lenr]; done) | (simp only [lenr]; omega)) only [↓amPre, amPost0, amPost1, amPost2, amPost3, ↓reduceIte, reduceCtorEq, Nat.reduceEqDiff, Nat.reduceBEq, Nat.reduceAdd, Nat.reduceLeDiff, Nat.reduceSub, Nat.reduceMul, Int.reduceToNat, List.size_toArray, tyF, MM, bu0, ipure, kpure, tpure, sspure, kset, tset, ksnoc, tsnoc, Kind.av, Twist.sl, Twist.tr, Invar.av, stsize, stget, sttl, stapp, stext, tsspure, Model.sl, Model.tr, vset, vsnoc, vpure, f15, f14, f3, f4, f1, m22, m1]) (by decide) (by decide) (by decide) (fun j st => j ≤ (2 ^ m.ks.length - 1) ∧ st.fr 6 = .i64 (j + 1) ∧ st.fr 3 = .ref 36 [] 2 0 (m.ks.length + j) ∧ st.fr 4 = .nilsl ∧ st.fr 1 = .loc 1 [] 0 0 ∧ st.mem 36 = some (vtr (twL m.ks.length ++ paL j)) ∧ st.mem 1 = some (.pt 3 (.agg [ksl m.ks, .st m.nm, tssl m.mv]))) ((2 ^ m.ks.length - 1)) ?_ ?_
  · simp -dsimp -implicitDefEqProofs (disch := first | omega | (simp only [lenr]; done) | (simp only [lenr]; omega)) only [↓amPre, amPost0, amPost1, amPost2, amPost3, ↓reduceIte, reduceCtorEq, Nat.reduceEqDiff, Nat.reduceBEq, Nat.reduceAdd, Nat.reduceLeDiff, Nat.reduceSub, Nat.reduceMul, Int.reduceToNat, List.size_toArray, tyF, MM, bu0, ipure, kpure, tpure, sspure, kset, tset, ksnoc, tsnoc, Kind.av, Twist.sl, Twist.tr, Invar.av, stsize, stget, sttl, stapp, stext, tsspure, Model.sl, Model.tr, vset, vsnoc, vpure, ren_eq, f15, f14, f3, f4, f1, m22, m1]
    simp [paL]
  rintro j st _ ⟨hj, f6, f3, f4, f1, m36, m1⟩
  have hsh := shl_small m.ks.length hl3
  have hpl := paL_len j
  by_cases hlt : j < 2 ^ m.ks.length - 1
  · have hps := paL_succ j
    have happ : twL m.ks.length ++ paL j ++ [(⟨2, ((j + 1 : Nat) : Int)⟩ : Invar)] = twL m.ks.length ++ paL (j + 1) := by rw [hps, List.append_assoc]
    have h2 : ((j : Int) + 1 < ((2 ^ m.ks.length : Nat) : Int)) := by omega
    have hle1 : (twL m.ks.length ++ paL j).length = m.ks.length + j := by rw [List.length_append, ht, hpl]
    simp -dsimp -implicitDefEqProofs (disch := first | omega | (simp only [lenr]; done) | (simp only [lenr]; omega)) only [↓amPre, amPost0, amPost1, amPost2, amPost3, ↓reduceIte, reduceCtorEq, Nat.reduceEqDiff, Nat.reduceBEq, Nat.reduceAdd, Nat.reduceLeDiff, Nat.reduceSub, Nat.reduceMul, Int.reduceToNat, List.size_toArray, tyF, MM, bu0, ipure, kpure, tpure, sspure, kset, tset, ksnoc, tsnoc, Kind.av, Twist.sl, Twist.tr, Invar.av, stsize, stget, sttl, stapp, stext, tsspure, Model.sl, Model.tr, vset, vsnoc, vpure, f6, f3, f4, f1, m36, m1, hb, hsh, lt_true h2, hle1, happ]
    repeat' (first | omega | rfl | exact i64c (by omega) | exact vic (by omega) | apply And.intro)
  have hje : j = 2 ^ m.ks.length - 1 := by omega
  have h2 : (((2 ^ m.ks.length : Nat) : Int) ≤ (j : Int) + 1) := by omega
  have hall : twL m.ks.length ++ paL j = allI m.ks := by rw [hje]; rfl
  rw [hall] at m36
  have hll : m.ks.length + j = (allI m.ks).length := by rw [hal, hje]
  rw [hll] at f3
  simp -dsimp -implicitDefEqProofs (disch := first | omega | (simp only [lenr]; done) | (simp only [lenr]; omega)) only [↓amPre, amPost0, amPost1, amPost2, amPost3, ↓reduceIte, reduceCtorEq, Nat.reduceEqDiff, Nat.reduceBEq, Nat.reduceAdd, Nat.reduceLeDiff, Nat.reduceSub, Nat.reduceMul, Int.reduceToNat, List.size_toArray, tyF, MM, bu0, ipure, kpure, tpure, sspure, kset, tset, ksnoc, tsnoc, Kind.av, Twist.sl, Twist.tr, Invar.av, stsize, stget, sttl, stapp, stext, tsspure, Model.sl, Model.tr, vset, vsnoc, vpure, f6, f3, f4, f1, m36, m1, hb, hsh, lt_false h2]
  generalize hA : allI m.ks = A at hal hll m36 f3
  have hcons : consL m = A.filter (keepI m) := by rw [← hA]; rfl
  have hmem : ∀ i ∈ A, (i.k = 1 → 0 ≤ i.s ∧ i.s < m.ks.length) ∧ intOk i.s := by
    intro i hi
    rw [← hA, allI, List.mem_append] at hi
    unfold intOk
    rcases hi with hi | hi
    · obtain ⟨n, hn, rfl⟩ := List.mem_map.1 hi
      have := List.mem_range.1 hn
      exact ⟨fun _ => (by simp only; omega), (by simp only; omega)⟩
    · obtain ⟨n, hn, rfl⟩ := List.mem_map.1 hi
      have := List.mem_range.1 hn
      exact ⟨fun q => (by cases q), (by simp only; omega)⟩
  refine awp_loopN 4 56 2 (by simp -dsimp -implicitDefEqProofs (disch := first | omega | (simp only [lenr]; done) | (simp only [lenr]; omega)) only [↓amPre, amPost0, amPost1, amPost2, amPost3, ↓reduceIte, reduceCtorEq, Nat.reduceEqDiff, Nat.reduceBEq, Nat.reduceAdd, Nat.reduceLeDiff, Nat.reduceSub, Nat.reduceMul, Int.reduceToNat, List.size_toArray, tyF, MM, bu0, ipure, kpure, tpure, sspure, kset, tset, ksnoc, tsnoc, Kind.av, Twist.sl, Twist.tr, Invar.av, stsize, stget, sttl, stapp, stext, tsspure, Model.sl, Model.tr, vset, vsnoc, vpure, f6, f3, f4, f1, m36, m1]) (by decide) (fun n st => n ≤ A.length ∧ st.fr 39 = .i64 n ∧ st.fr 38 = .i64 A.length ∧ st.fr 37 = .ref 36 [] 2 0 A.length ∧ st.fr 4 = .ref 56 [] 2 0 ((A.take n).filter (keepI m)).length ∧ st.fr 1 = .loc 1 [] 0 0 ∧ st.mem 36 = some (vtr A) ∧ st.mem 56 = some (vtr ((A.take n).filter (keepI m))) ∧ st.mem 1 = some (.pt 3 (.agg [ksl m.ks, .st m.nm, tssl m.mv]))) (A.length) ?_ ?_
  · simp -dsimp -implicitDefEqProofs (disch := first | omega | (simp only [lenr]; done) | (simp only [lenr]; omega)) only [↓amPre, amPost0, amPost1, amPost2, amPost3, ↓reduceIte, reduceCtorEq, Nat.reduceEqDiff, Nat.reduceBEq, Nat.reduceAdd, Nat.reduceLeDiff, Nat.reduceSub, Nat.reduceMul, Int.reduceToNat, List.size_toArray, tyF, MM, bu0, ipure, kpure, tpure, sspure, kset, tset, ksnoc, tsnoc, Kind.av, Twist.sl, Twist.tr, Invar.av, stsize, stget, sttl, stapp, stext, tsspure, Model.sl, Model.tr, vset, vsnoc, vpure, nilAs_eq, f6, f3, f4, f1, m36, m1]
    simp
  rintro n st _ ⟨hn, f39, f38, f37, f4, f1, m36, m56, m1⟩
  have hfl : ((A.take n).filter (keepI m)).length ≤ n := by
    have a1 := List.length_filter_le (keepI m) (A.take n)
    have a2 : (A.take n).length ≤ n := by simp; omega
    omega
  by_cases hlt : n < A.length
  · obtain ⟨mm1, mm2⟩ := hmem _ (mem_getD A n default hlt)
    have hts := take_succ_eq A n default hlt
    have hfs := filter_snoc (keepI m) (A.take n) (A.getD n default)
    rw [← hts] at hfs
    generalize hL : (A.take n).filter (keepI m) = L at hfl f4 m56 hfs
    simp -dsimp -implicitDefEqProofs (disch := first | omega | (simp only [lenr]; done) | (simp only [lenr]; omega)) only [↓amPre, amPost0, amPost1, amPost2, amPost3, ↓reduceIte, reduceCtorEq, Nat.reduceEqDiff, Nat.reduceBEq, Nat.reduceAdd, Nat.reduceLeDiff, Nat.reduceSub, Nat.reduceMul, Int.reduceToNat, List.size_toArray, tyF, MM, bu0, ipure, kpure, tpure, sspure, kset, tset, ksnoc, tsnoc, Kind.av, Twist.sl, Twist.tr, Invar.av, stsize, stget, sttl, stapp, stext, tsspure, Model.sl, Model.tr, vset, vsnoc, vpure, f39, f38, f37, f4, f1, m36, m56, m1]
    refine callP_of (iTrivial m.ks (A.getD n default) hl3 mm1) ?_
    cases t1 : trivI m.ks (A.getD n default) with
    | true =>
      have hk : keepI m (A.getD n default) = false := by rw [keepI, t1]; rfl
      rw [hk, if_neg (by simp)] at hfs
      simp -dsimp -implicitDefEqProofs (disch := first | omega | (simp only [lenr]; done) | (simp only [lenr]; omega)) only [↓amPre, amPost0, amPost1, amPost2, amPost3, ↓reduceIte, reduceCtorEq, Nat.reduceEqDiff, Nat.reduceBEq, Nat.reduceAdd, Nat.reduceLeDiff, Nat.reduceSub, Nat.reduceMul, Int.reduceToNat, List.size_toArray, tyF, MM, bu0, ipure, kpure, tpure, sspure, kset, tset, ksnoc, tsnoc, Kind.av, Twist.sl, Twist.tr, Invar.av, stsize, stget, sttl, stapp, stext, tsspure, Model.sl, Model.tr, vset, vsnoc, vpure, f39, f38, f37, f4, f1, m36, m56, m1, t1, hfs]
      repeat' (first | omega | rfl | exact i64c (by omega) | exact vic (by omega) | apply And.intro)
    | false =>
      simp -dsimp -implicitDefEqProofs (disch := first | omega | (simp only [lenr]; done) | (simp only [lenr]; omega)) only [↓amPre, amPost0, amPost1, amPost2, amPost3, ↓reduceIte, reduceCtorEq, Nat.reduceEqDiff, Nat.reduceBEq, Nat.reduceAdd, Nat.reduceLeDiff, Nat.reduceSub, Nat.reduceMul, Int.reduceToNat, List.size_toArray, tyF, MM, bu0, ipure, kpure, tpure, sspure, kset, tset, ksnoc, tsnoc, Kind.av, Twist.sl, Twist.tr, Invar.av, stsize, stget, sttl, stapp, stext, tsspure, Model.sl, Model.tr, vset, vsnoc, vpure, f39, f38, f37, f4, f1, m36, m56, m1, t1]
      refine callP_of (iIsConserved m (A.getD n default) h mm2) ?_
      by_cases t2 : consM m (A.getD n default)
      · have hk : keepI m (A.getD n default) = true := by rw [keepI, t1, decide_eq_true t2]; rfl
        rw [hk, if_pos rfl] at hfs
        have hll2 : ((A.take (n + 1)).filter (keepI m)).length = L.length + 1 := by rw [hfs]; simp
        simp -dsimp -implicitDefEqProofs (disch := first | omega | (simp only [lenr]; done) | (simp only [lenr]; omega)) only [↓amPre, amPost0, amPost1, amPost2, amPost3, ↓reduceIte, reduceCtorEq, Nat.reduceEqDiff, Nat.reduceBEq, Nat.reduceAdd, Nat.reduceLeDiff, Nat.reduceSub, Nat.reduceMul, Int.reduceToNat, List.size_toArray, tyF, MM, bu0, ipure, kpure, tpure, sspure, kset, tset, ksnoc, tsnoc, Kind.av, Twist.sl, Twist.tr, Invar.av, stsize, stget, sttl, stapp, stext, tsspure, Model.sl, Model.tr, vset, vsnoc, vpure, f39, f38, f37, f4, f1, m36, m56, m1, t1, t2, ← hfs, hll2]
        repeat' (first | omega | rfl | exact i64c (by omega) | exact vic (by omega) | apply And.intro)
      · have hk : keepI m (A.getD n default) = false := by rw [keepI, t1, decide_eq_false t2]; rfl
        rw [hk, if_neg (by simp)] at hfs
        simp -dsimp -implicitDefEqProofs (disch := first | omega | (simp only [lenr]; done) | (simp only [lenr]; omega)) only [↓amPre, amPost0, amPost1, amPost2, amPost3, ↓reduceIte, reduceCtorEq, Nat.reduceEqDiff, Nat.reduceBEq, Nat.reduceAdd, Nat.reduceLeDiff, Nat.reduceSub, Nat.reduceMul, Int.reduceToNat, List.size_toArray, tyF, MM, bu0, ipure, kpure, tpure, sspure, kset, tset, ksnoc, tsnoc, Kind.av, Twist.sl, Twist.tr, Invar.av, stsize, stget, sttl, stapp, stext, tsspure, Model.sl, Model.tr, vset, vsnoc, vpure, f39, f38, f37, f4, f1, m36, m56, m1, t1, t2, hfs]
        repeat' (first | omega | rfl | exact i64c (by omega) | exact vic (by omega) | apply And.intro)
  · have hne : n = A.length := by omega
    subst hne
    rw [List.take_length, ← hcons] at f4 m56
    simp -dsimp -implicitDefEqProofs (disch := first | omega | (simp only [lenr]; done) | (simp only [lenr]; omega)) only [↓amPre, amPost0, amPost1, amPost2, amPost3, ↓reduceIte, reduceCtorEq, Nat.reduceEqDiff, Nat.reduceBEq, Nat.reduceAdd, Nat.reduceLeDiff, Nat.reduceSub, Nat.reduceMul, Int.reduceToNat, List.size_toArray, tyF, MM, bu0, ipure, kpure, tpure, sspure, kset, tset, ksnoc, tsnoc, Kind.av, Twist.sl, Twist.tr, Invar.av, stsize, stget, sttl, stapp, stext, tsspure, Model.sl, Model.tr, vset, vsnoc, vpure, f39, f38, f37, f4, f1, m36, m56, m1, hR]
end Go.AM

/-
  CONTRACTS of functions of the program, and what they compute, by content.
-/
import Derived.Test.YtbhaeaehgmpfhaaCU9
set_option linter.unusedVariables false
set_option linter.unusedSimpArgs false
set_option maxRecDepth 8000
namespace Go.AM
open Go.Proofs
theorem sl21Compose (ks : List Kind) (a b : List Twist) (pa : psOk ks a) (pb : psOk ks b) : SpecAt Try.prog 104 [ksl ks, tsl a, tsl b] (ttr (compS ks a b)) := by
  have hl3 := pa.1.1.2
  have hal := pa.2.1
  have hbl := pb.2.1
  have hcl := compS_len ks a b
  have hsl : (ks.map solvedK).length = ks.length := by simp
  have hcs : (compS ks a b).length = (ks.map solvedK).length := by rw [hcl, hsl]
  refine spec_of_awp (M := MM) (np := 3) (fz := false) mixed Try.func104 rfl rfl (by decide) rfl (Nat.le_refl _) (by decide +kernel) (.inl rfl) (by first | trivial | simp only [sigsOk_nil, sigsOk_some, sigsOk_none, sig_tr, sig_pt, sig_mt, sig_agg, List.map_cons, List.map_nil, sig1_tr, sig1_pt, sig1_v, and_self, true_and, List.length_map, List.length_set]) ?_
  simp -dsimp -implicitDefEqProofs (disch := first | omega | (simp only [lenr]; done) | (simp only [lenr]; omega)) only [↓amPre, amAll, ↓reduceIte, reduceCtorEq, Nat.reduceEqDiff, Nat.reduceBEq, Nat.reduceAdd, Nat.reduceLeDiff, Nat.reduceSub, Nat.reduceMul, Int.reduceToNat, List.size_toArray, tyF, MM, bu0, ipure, kpure, tpure, sspure, kset, tset, ksnoc, tsnoc, Kind.av, Twist.sl, Twist.tr, Invar.av, stsize, stget, sttl, stapp, stext, tsspure, Model.sl, Model.tr]
  refine callP_of (sl21Solved ks pa.1) ?_
  simp -dsimp -implicitDefEqProofs (disch := first | omega | (simp only [lenr]; done) | (simp only [lenr]; omega)) only [↓amPre, amAll, ↓reduceIte, reduceCtorEq, Nat.reduceEqDiff, Nat.reduceBEq, Nat.reduceAdd, Nat.reduceLeDiff, Nat.reduceSub, Nat.reduceMul, Int.reduceToNat, List.size_toArray, tyF, MM, bu0, ipure, kpure, tpure, sspure, kset, tset, ksnoc, tsnoc, Kind.av, Twist.sl, Twist.tr, Invar.av, stsize, stget, sttl, stapp, stext, tsspure, Model.sl, Model.tr, hsl]
  refine awp_loop (fun k st => k ≤ ks.length ∧ st.fr 8 = .i64 k ∧ st.fr 0 = ksl ks ∧ st.fr 1 = tsl a ∧ st.fr 2 = tsl b ∧ st.fr 7 = .ref 12 [] 2 0 ks.length ∧ st.mem 12 = some (ttr (mixL (compS ks a b) (ks.map solvedK) k))) (ks.length) ?_ ?_
  · simp -dsimp -implicitDefEqProofs (disch := first | omega | (simp only [lenr]; done) | (simp only [lenr]; omega)) only [↓amPre, amAll, ↓reduceIte, reduceCtorEq, Nat.reduceEqDiff, Nat.reduceBEq, Nat.reduceAdd, Nat.reduceLeDiff, Nat.reduceSub, Nat.reduceMul, Int.reduceToNat, List.size_toArray, tyF, MM, bu0, ipure, kpure, tpure, sspure, kset, tset, ksnoc, tsnoc, Kind.av, Twist.sl, Twist.tr, Invar.av, stsize, stget, sttl, stapp, stext, tsspure, Model.sl, Model.tr, mixL_zero, hsl]
    simp
  rintro k st _ ⟨hk, f8, f0, f1, f2, f7, m12⟩
  have hm := mixL_len (compS ks a b) (ks.map solvedK) k hcs
  rw [hsl] at hm
  by_cases hlt : k < ks.length
  · have hk := pa.1.2.1 _ (mem_getD ks k default hlt)
    have ta := tw_get pa hlt
    have tb := tw_get pb hlt
    have hset := mixL_set (compS ks a b) (ks.map solvedK) k default hcs (by omega)
    have hself := mixL_self (compS ks a b) (ks.map solvedK) k default hcs (by omega)
    rw [map_getD solvedK ks k default default hlt] at hself
    rw [compS, range_map_get _ _ _ _ hlt, ← compS] at hset
    obtain ⟨c, o, hc, ho, la, la', c1, c2, o1, o2⟩ := twOk_facts ta hk
    obtain ⟨c', o', hc', ho', lb, lb', _⟩ := twOk_facts tb hk
    have ecc : c = c' := by omega
    subst ecc
    generalize hA : a.getD k default = A at ta la la' hset
    generalize hB : b.getD k default = B at tb lb lb' hset
    have hcb : ((List.range c).map (compB o A B)).length = (List.replicate c (0:Int)).length := by simp
    have hct : (compI A.to B.to).length = (runI 0 c).length := by rw [compI_len, runI_len, la]
    have hsk : solvedK (ks.getD k default) = ⟨runI 0 c, List.replicate c 0⟩ := by rw [solvedK, hc, Int.toNat_natCast]
    rw [hsk] at hself
    simp -dsimp -implicitDefEqProofs (disch := first | omega | (simp only [lenr]; done) | (simp only [lenr]; omega)) only [↓amPre, amAll, ↓reduceIte, reduceCtorEq, Nat.reduceEqDiff, Nat.reduceBEq, Nat.reduceAdd, Nat.reduceLeDiff, Nat.reduceSub, Nat.reduceMul, Int.reduceToNat, List.size_toArray, tyF, MM, bu0, ipure, kpure, tpure, sspure, kset, tset, ksnoc, tsnoc, Kind.av, Twist.sl, Twist.tr, Invar.av, stsize, stget, sttl, stapp, stext, tsspure, Model.sl, Model.tr, f8, f0, f1, f2, f7, m12, hA, hB, hc, ho]
    refine awp_loop (fun i st => i ≤ c ∧ st.fr 9 = .i64 i ∧ st.fr 8 = .i64 k ∧ st.fr 0 = ksl ks ∧ st.fr 1 = tsl a ∧ st.fr 2 = tsl b ∧ st.fr 7 = .ref 12 [] 2 0 ks.length ∧ st.mem 12 = some (ttr ((mixL (compS ks a b) (ks.map solvedK) k).set k ⟨mixL (compI A.to B.to) (runI 0 c) i, mixL ((List.range c).map (compB o A B)) (List.replicate c 0) i⟩))) (c) ?_ ?_
    · simp -dsimp -implicitDefEqProofs (disch := first | omega | (simp only [lenr]; done) | (simp only [lenr]; omega)) only [↓amPre, amAll, ↓reduceIte, reduceCtorEq, Nat.reduceEqDiff, Nat.reduceBEq, Nat.reduceAdd, Nat.reduceLeDiff, Nat.reduceSub, Nat.reduceMul, Int.reduceToNat, List.size_toArray, tyF, MM, bu0, ipure, kpure, tpure, sspure, kset, tset, ksnoc, tsnoc, Kind.av, Twist.sl, Twist.tr, Invar.av, stsize, stget, sttl, stapp, stext, tsspure, Model.sl, Model.tr, f8, f0, f1, f2, f7, m12, mixL_zero, hself]
      simp
    rintro i st _ ⟨hi, f9, f8, f0, f1, f2, f7, m12⟩
    have hm1 := mixL_len (compI A.to B.to) (runI 0 c) i hct
    have hm2 := mixL_len ((List.range c).map (compB o A B)) (List.replicate c 0) i hcb
    rw [List.length_replicate] at hm2
    rw [runI_len] at hm1
    by_cases hlt' : i < c
    · have hx := to_get ta (show i < A.to.length by omega)
      have hy := by_get ta (show i < A.by'.length by omega)
      have hz := by_get tb (show (A.to.getD i 0).toNat < B.by'.length by omega)
      have hs1 := mixL_set (compI A.to B.to) (runI 0 c) i 0 hct (by rw [runI_len]; omega)
      have hs2 := mixL_set ((List.range c).map (compB o A B)) (List.replicate c 0) i 0 hcb (by simp; omega)
      rw [range_map_get _ _ _ _ (by omega), compB] at hs2
      rw [compI_get _ _ _ (by omega)] at hs1
      simp -dsimp -implicitDefEqProofs (disch := first | omega | (simp only [lenr]; done) | (simp only [lenr]; omega)) only [↓amPre, amAll, ↓reduceIte, reduceCtorEq, Nat.reduceEqDiff, Nat.reduceBEq, Nat.reduceAdd, Nat.reduceLeDiff, Nat.reduceSub, Nat.reduceMul, Int.reduceToNat, List.size_toArray, tyF, MM, bu0, ipure, kpure, tpure, sspure, kset, tset, ksnoc, tsnoc, Kind.av, Twist.sl, Twist.tr, Invar.av, stsize, stget, sttl, stapp, stext, tsspure, Model.sl, Model.tr, f9, f8, f0, f1, f2, f7, m12, hA, hB, la, hm, hm1, hm2, hs1, hs2, ho]
      repeat' (first | omega | rfl | exact i64c (by omega) | exact vic (by omega) | apply And.intro)
    · have hie : i = c := by omega
      subst hie
      have e1 := mixL_all (compI A.to B.to) (runI 0 i) i (by rw [compI_len]; omega) (by rw [runI_len]; omega)
      have e2 := mixL_all ((List.range i).map (compB o A B)) (List.replicate i 0) i (by simp) (by simp)
      rw [compT, ho, la] at hset
      simp -dsimp -implicitDefEqProofs (disch := first | omega | (simp only [lenr]; done) | (simp only [lenr]; omega)) only [↓amPre, amAll, ↓reduceIte, reduceCtorEq, Nat.reduceEqDiff, Nat.reduceBEq, Nat.reduceAdd, Nat.reduceLeDiff, Nat.reduceSub, Nat.reduceMul, Int.reduceToNat, List.size_toArray, tyF, MM, bu0, ipure, kpure, tpure, sspure, kset, tset, ksnoc, tsnoc, Kind.av, Twist.sl, Twist.tr, Invar.av, stsize, stget, sttl, stapp, stext, tsspure, Model.sl, Model.tr, f9, f8, f0, f1, f2, f7, m12, hA, la, e1, e2, hset]
      repeat' (first | omega | rfl | exact i64c (by omega) | exact vic (by omega) | apply And.intro)
  · have hke : k = ks.length := by omega
    subst hke
    have := mixL_all (compS ks a b) (ks.map solvedK) ks.length (by omega) (by simp)
    simp -dsimp -implicitDefEqProofs (disch := first | omega | (simp only [lenr]; done) | (simp only [lenr]; omega)) only [↓amPre, amAll, ↓reduceIte, reduceCtorEq, Nat.reduceEqDiff, Nat.reduceBEq, Nat.reduceAdd, Nat.reduceLeDiff, Nat.reduceSub, Nat.reduceMul, Int.reduceToNat, List.size_toArray, tyF, MM, bu0, ipure, kpure, tpure, sspure, kset, tset, ksnoc, tsnoc, Kind.av, Twist.sl, Twist.tr, Invar.av, stsize, stget, sttl, stapp, stext, tsspure, Model.sl, Model.tr, f8, f0, f1, f2, f7, m12, hm, this, hcl]
theorem sComposePieces (ks : List Kind) (a b : List Twist) (h1 : ks.length ≤ 1099511627776) (ha : smallT a) (hb : smallT b) : SpecAt Try.prog 36 [ksl ks, tsl a, tsl b] (compR ks a b) := by
  refine spec_of_awp (M := MM) (np := 3) (fz := false) mixed Try.func36 rfl rfl (by decide) rfl (Nat.le_refl _) (by decide +kernel) (.inl rfl) (by first | trivial | simp only [sigsOk_nil, sigsOk_some, sigsOk_none, sig_tr, sig_pt, sig_mt, sig_agg, List.map_cons, List.map_nil, sig1_tr, sig1_pt, sig1_v, and_self, true_and, List.length_map, List.length_set]) ?_
  simp -dsimp -implicitDefEqProofs (disch := first | omega | (simp only [lenr]; done) | (simp only [lenr]; omega)) only [↓amPre, amAll, ↓reduceIte, reduceCtorEq, Nat.reduceEqDiff, Nat.reduceBEq, Nat.reduceAdd, Nat.reduceLeDiff, Nat.reduceSub, Nat.reduceMul, Int.reduceToNat, List.size_toArray, tyF, MM, bu0, ipure, kpure, tpure, sspure, kset, tset, ksnoc, tsnoc, Kind.av, Twist.sl, Twist.tr, Invar.av, stsize, stget, sttl, stapp, stext, tsspure, Model.sl, Model.tr]
  refine callP_of (sIsPieceState ks a h1 ha.1 ha.2) ?_
  by_cases pa : psOk ks a
  case neg =>
    have hR : compR ks a b = .tup [.tr 2 [], .bl false] := if_neg fun h => pa h.1
    simp -dsimp -implicitDefEqProofs (disch := first | omega | (simp only [lenr]; done) | (simp only [lenr]; omega)) only [↓amPre, amAll, ↓reduceIte, reduceCtorEq, Nat.reduceEqDiff, Nat.reduceBEq, Nat.reduceAdd, Nat.reduceLeDiff, Nat.reduceSub, Nat.reduceMul, Int.reduceToNat, List.size_toArray, tyF, MM, bu0, ipure, kpure, tpure, sspure, kset, tset, ksnoc, tsnoc, Kind.av, Twist.sl, Twist.tr, Invar.av, stsize, stget, sttl, stapp, stext, tsspure, Model.sl, Model.tr, pa, hR]
  simp -dsimp -implicitDefEqProofs (disch := first | omega | (simp only [lenr]; done) | (simp only [lenr]; omega)) only [↓amPre, amAll, ↓reduceIte, reduceCtorEq, Nat.reduceEqDiff, Nat.reduceBEq, Nat.reduceAdd, Nat.reduceLeDiff, Nat.reduceSub, Nat.reduceMul, Int.reduceToNat, List.size_toArray, tyF, MM, bu0, ipure, kpure, tpure, sspure, kset, tset, ksnoc, tsnoc, Kind.av, Twist.sl, Twist.tr, Invar.av, stsize, stget, sttl, stapp, stext, tsspure, Model.sl, Model.tr, pa]
  refine callP_of (sIsPieceState ks b h1 hb.1 hb.2) ?_
  by_cases pb : psOk ks b
  case neg =>
    have hR : compR ks a b = .tup [.tr 2 [], .bl false] := if_neg fun h => pb h.2
    simp -dsimp -implicitDefEqProofs (disch := first | omega | (simp only [lenr]; done) | (simp only [lenr]; omega)) only [↓amPre, amAll, ↓reduceIte, reduceCtorEq, Nat.reduceEqDiff, Nat.reduceBEq, Nat.reduceAdd, Nat.reduceLeDiff, Nat.reduceSub, Nat.reduceMul, Int.reduceToNat, List.size_toArray, tyF, MM, bu0, ipure, kpure, tpure, sspure, kset, tset, ksnoc, tsnoc, Kind.av, Twist.sl, Twist.tr, Invar.av, stsize, stget, sttl, stapp, stext, tsspure, Model.sl, Model.tr, pb, hR]
  have hR : compR ks a b = .tup [ttr (compS ks a b), .bl true] := if_pos ⟨pa, pb⟩
  simp -dsimp -implicitDefEqProofs (disch := first | omega | (simp only [lenr]; done) | (simp only [lenr]; omega)) only [↓amPre, amAll, ↓reduceIte, reduceCtorEq, Nat.reduceEqDiff, Nat.reduceBEq, Nat.reduceAdd, Nat.reduceLeDiff, Nat.reduceSub, Nat.reduceMul, Int.reduceToNat, List.size_toArray, tyF, MM, bu0, ipure, kpure, tpure, sspure, kset, tset, ksnoc, tsnoc, Kind.av, Twist.sl, Twist.tr, Invar.av, stsize, stget, sttl, stapp, stext, tsspure, Model.sl, Model.tr, pb]
  refine callP_of (sl21Compose ks a b pa pb) ?_
  have hcl := compS_len ks a b
  simp -dsimp -implicitDefEqProofs (disch := first | omega | (simp only [lenr]; done) | (simp only [lenr]; omega)) only [↓amPre, amAll, ↓reduceIte, reduceCtorEq, Nat.reduceEqDiff, Nat.reduceBEq, Nat.reduceAdd, Nat.reduceLeDiff, Nat.reduceSub, Nat.reduceMul, Int.reduceToNat, List.size_toArray, tyF, MM, bu0, ipure, kpure, tpure, sspure, kset, tset, ksnoc, tsnoc, Kind.av, Twist.sl, Twist.tr, Invar.av, stsize, stget, sttl, stapp, stext, tsspure, Model.sl, Model.tr, hR, hcl]
def invR (ks : List Kind) (a : List Twist) : AV := if psOk ks a then .tup [ttr (invS ks a), .bl true] else .tup [.tr 2 [], .bl false]
theorem iinvertPieces (ks : List Kind) (a : List Twist) (h1 : ks.length ≤ 1099511627776) (ha : smallT a) : SpecAt Try.prog 38 [ksl ks, tsl a] (invR ks a) := by
  refine spec_of_awp (M := MM) (np := 2) (fz := false) mixed Try.func38 rfl rfl (by decide) rfl (Nat.le_refl _) (by decide +kernel) (.inl rfl) (by first | trivial | simp only [sigsOk_nil, sigsOk_some, sigsOk_none, sig_tr, sig_pt, sig_mt, sig_agg, List.map_cons, List.map_nil, sig1_tr, sig1_pt, sig1_v, and_self, true_and, List.length_map, List.length_set]) ?_
  simp -dsimp -implicitDefEqProofs (disch := first | omega | (simp only [lenr]; done) | (simp only [lenr]; omega)) only [↓amPre, amAll, ↓reduceIte, reduceCtorEq, Nat.reduceEqDiff, Nat.reduceBEq, Nat.reduceAdd, Nat.reduceLeDiff, Nat.reduceSub, Nat.reduceMul, Int.reduceToNat, List.size_toArray, tyF, MM, bu0, ipure, kpure, tpure, sspure, kset, tset, ksnoc, tsnoc, Kind.av, Twist.sl, Twist.tr, Invar.av, stsize, stget, sttl, stapp, stext, tsspure, Model.sl, Model.tr]
  refine callP_of (iIsPieceState ks a h1 ha.1 ha.2) ?_
  by_cases pa : psOk ks a
  case neg =>
    have hR : invR ks a = .tup [.tr 2 [], .bl false] := if_neg pa
    simp -dsimp -implicitDefEqProofs (disch := first | omega | (simp only [lenr]; done) | (simp only [lenr]; omega)) only [↓amPre, amAll, ↓reduceIte, reduceCtorEq, Nat.reduceEqDiff, Nat.reduceBEq, Nat.reduceAdd, Nat.reduceLeDiff, Nat.reduceSub, Nat.reduceMul, Int.reduceToNat, List.size_toArray, tyF, MM, bu0, ipure, kpure, tpure, sspure, kset, tset, ksnoc, tsnoc, Kind.av, Twist.sl, Twist.tr, Invar.av, stsize, stget, sttl, stapp, stext, tsspure, Model.sl, Model.tr, pa, hR]
  have hR : invR ks a = .tup [ttr (invS ks a), .bl true] := if_pos pa
  have hl3 := pa.1.1.2
  have hal := pa.2.1
  simp -dsimp -implicitDefEqProofs (disch := first | omega | (simp only [lenr]; done) | (simp only [lenr]; omega)) only [↓amPre, amAll, ↓reduceIte, reduceCtorEq, Nat.reduceEqDiff, Nat.reduceBEq, Nat.reduceAdd, Nat.reduceLeDiff, Nat.reduceSub, Nat.reduceMul, Int.reduceToNat, List.size_toArray, tyF, MM, bu0, ipure, kpure, tpure, sspure, kset, tset, ksnoc, tsnoc, Kind.av, Twist.sl, Twist.tr, Invar.av, stsize, stget, sttl, stapp, stext, tsspure, Model.sl, Model.tr, pa]
  refine awp_loopN 6 66 2 (by simp -dsimp -implicitDefEqProofs (disch := first | omega | (simp only [lenr]; done) | (simp only [lenr]; omega)) only [↓amPre, amAll, ↓reduceIte, reduceCtorEq, Nat.reduceEqDiff, Nat.reduceBEq, Nat.reduceAdd, Nat.reduceLeDiff, Nat.reduceSub, Nat.reduceMul, Int.reduceToNat, List.size_toArray, tyF, MM, bu0, ipure, kpure, tpure, sspure, kset, tset, ksnoc, tsnoc, Kind.av, Twist.sl, Twist.tr, Invar.av, stsize, stget, sttl, stapp, stext, tsspure, Model.sl, Model.tr]) (by decide) (fun k st => k ≤ ks.length ∧ st.fr 18 = .i64 k ∧ st.fr 17 = .i64 ks.length ∧ st.fr 16 = ksl ks ∧ st.fr 1 = tsl a ∧ st.fr 6 = .ref 66 [] 2 0 k ∧ st.mem 66 = some (ttr ((invS ks a).take k))) (ks.length) ?_ ?_
  · simp -dsimp -implicitDefEqProofs (disch := first | omega | (simp only [lenr]; done) | (simp only [lenr]; omega)) only [↓amPre, amAll, ↓reduceIte, reduceCtorEq, Nat.reduceEqDiff, Nat.reduceBEq, Nat.reduceAdd, Nat.reduceLeDiff, Nat.reduceSub, Nat.reduceMul, Int.reduceToNat, List.size_toArray, tyF, MM, bu0, ipure, kpure, tpure, sspure, kset, tset, ksnoc, tsnoc, Kind.av, Twist.sl, Twist.tr, Invar.av, stsize, stget, sttl, stapp, stext, tsspure, Model.sl, Model.tr, nilAs_eq]
    simp
  rintro k st _ ⟨hk, f18, f17, f16, f1, f6, m66⟩
  have hcl := invS_len ks a
  have hml : ((invS ks a).take k).length = k := by simp; omega
  by_cases hlt : k < ks.length
  · have hk := pa.1.2.1 _ (mem_getD ks k default hlt)
    have ta := tw_get pa hlt
    have hms := take_succ_eq (invS ks a) k default (by omega)
    rw [invS, range_map_get _ _ _ _ hlt, ← invS] at hms
    obtain ⟨c, o, hc, ho, la, la', c1, c2, o1, o2⟩ := twOk_facts ta hk
    generalize hA : a.getD k default = A at ta la la' hms
    simp -dsimp -implicitDefEqProofs (disch := first | omega | (simp only [lenr]; done) | (simp only [lenr]; omega)) only [↓amPre, amAll, ↓reduceIte, reduceCtorEq, Nat.reduceEqDiff, Nat.reduceBEq, Nat.reduceAdd, Nat.reduceLeDiff, Nat.reduceSub, Nat.reduceMul, Int.reduceToNat, List.size_toArray, tyF, MM, bu0, ipure, kpure, tpure, sspure, kset, tset, ksnoc, tsnoc, Kind.av, Twist.sl, Twist.tr, Invar.av, stsize, stget, sttl, stapp, stext, tsspure, Model.sl, Model.tr, f18, f17, f16, f1, f6, m66, hA, hc, ho]
    refine callP_of (iinverse A.to (by omega) (fun x hx => by have := ta.2.2.1.2.1 x hx; omega)) ?_
    simp -dsimp -implicitDefEqProofs (disch := first | omega | (simp only [lenr]; done) | (simp only [lenr]; omega)) only [↓amPre, amAll, ↓reduceIte, reduceCtorEq, Nat.reduceEqDiff, Nat.reduceBEq, Nat.reduceAdd, Nat.reduceLeDiff, Nat.reduceSub, Nat.reduceMul, Int.reduceToNat, List.size_toArray, tyF, MM, bu0, ipure, kpure, tpure, sspure, kset, tset, ksnoc, tsnoc, Kind.av, Twist.sl, Twist.tr, Invar.av, stsize, stget, sttl, stapp, stext, tsspure, Model.sl, Model.tr, f18, f17, f16, f1, f6, m66, hA, hc, ho]
    refine awp_loop (fun i st => i ≤ c ∧ st.fr 39 = .i64 i ∧ st.fr 38 = .i64 c ∧ st.fr 37 = isl A.to ∧ st.fr 18 = .i64 k ∧ st.fr 17 = .i64 ks.length ∧ st.fr 16 = ksl ks ∧ st.fr 1 = tsl a ∧ st.fr 7 = .i64 k ∧ st.fr 8 = .loc 8 [] 0 0 ∧ st.fr 9 = .loc 9 [] 0 0 ∧ st.fr 6 = .ref 66 [] 2 0 k ∧ st.mem 8 = some (.pt 2 (.agg [.i64 c, .i64 o])) ∧ st.mem 9 = some (.pt 2 (.agg [itr (invI A.to), itr (scat (List.replicate c 0) A.to (invB o A) i)])) ∧ st.mem 66 = some (ttr ((invS ks a).take k))) (c) ?_ ?_
    · simp -dsimp -implicitDefEqProofs (disch := first | omega | (simp only [lenr]; done) | (simp only [lenr]; omega)) only [↓amPre, amAll, ↓reduceIte, reduceCtorEq, Nat.reduceEqDiff, Nat.reduceBEq, Nat.reduceAdd, Nat.reduceLeDiff, Nat.reduceSub, Nat.reduceMul, Int.reduceToNat, List.size_toArray, tyF, MM, bu0, ipure, kpure, tpure, sspure, kset, tset, ksnoc, tsnoc, Kind.av, Twist.sl, Twist.tr, Invar.av, stsize, stget, sttl, stapp, stext, tsspure, Model.sl, Model.tr, f18, f17, f16, f1, f6, m66, la]
      simp [scat]
    rintro i st _ ⟨hi, f39, f38, f37, f18, f17, f16, f1, f7, f8, f9, f6, m8, m9, m66⟩
    have hm := scat_len (List.replicate c 0) A.to (invB o A) i
    rw [List.length_replicate] at hm
    by_cases hlt' : i < c
    · have hx := to_get ta (show i < A.to.length by omega)
      have hy := by_get ta (show i < A.by'.length by omega)
      have hs : (scat (List.replicate c 0) A.to (invB o A) i).set (A.to.getD i 0).toNat (((o : Int) - A.by'.getD i 0).tmod o) = scat (List.replicate c 0) A.to (invB o A) (i + 1) := rfl
      simp -dsimp -implicitDefEqProofs (disch := first | omega | (simp only [lenr]; done) | (simp only [lenr]; omega)) only [↓amPre, amAll, ↓reduceIte, reduceCtorEq, Nat.reduceEqDiff, Nat.reduceBEq, Nat.reduceAdd, Nat.reduceLeDiff, Nat.reduceSub, Nat.reduceMul, Int.reduceToNat, List.size_toArray, tyF, MM, bu0, ipure, kpure, tpure, sspure, kset, tset, ksnoc, tsnoc, Kind.av, Twist.sl, Twist.tr, Invar.av, stsize, stget, sttl, stapp, stext, tsspure, Model.sl, Model.tr, f39, f38, f37, f18, f17, f16, f1, f7, f8, f9, f6, m8, m9, m66, hA, hm, hs]
      repeat' (first | omega | rfl | exact i64c (by omega) | exact vic (by omega) | apply And.intro)
    · have hie : i = c := by omega
      subst hie
      rw [invT, ho, la] at hms
      simp -dsimp -implicitDefEqProofs (disch := first | omega | (simp only [lenr]; done) | (simp only [lenr]; omega)) only [↓amPre, amAll, ↓reduceIte, reduceCtorEq, Nat.reduceEqDiff, Nat.reduceBEq, Nat.reduceAdd, Nat.reduceLeDiff, Nat.reduceSub, Nat.reduceMul, Int.reduceToNat, List.size_toArray, tyF, MM, bu0, ipure, kpure, tpure, sspure, kset, tset, ksnoc, tsnoc, Kind.av, Twist.sl, Twist.tr, Invar.av, stsize, stget, sttl, stapp, stext, tsspure, Model.sl, Model.tr, f39, f38, f37, f18, f17, f16, f1, f7, f8, f9, f6, m8, m9, m66, hm, hml, ← hms]
      repeat' (first | omega | rfl | exact i64c (by omega) | exact vic (by omega) | apply And.intro)
  · have hke : k = ks.length := by omega
    subst hke
    simp -dsimp -implicitDefEqProofs (disch := first | omega | (simp only [lenr]; done) | (simp only [lenr]; omega)) only [↓amPre, amAll, ↓reduceIte, reduceCtorEq, Nat.reduceEqDiff, Nat.reduceBEq, Nat.reduceAdd, Nat.reduceLeDiff, Nat.reduceSub, Nat.reduceMul, Int.reduceToNat, List.size_toArray, tyF, MM, bu0, ipure, kpure, tpure, sspure, kset, tset, ksnoc, tsnoc, Kind.av, Twist.sl, Twist.tr, Invar.av, stsize, stget, sttl, stapp, stext, tsspure, Model.sl, Model.tr, f18, f17, f16, f1, f6, m66, hml, hcl, hR]
end Go.AM

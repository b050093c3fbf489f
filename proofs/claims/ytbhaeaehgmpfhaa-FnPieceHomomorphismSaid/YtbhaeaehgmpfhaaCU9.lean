/-
  CONTRACTS of functions of the program, and what they compute, by content.
-/
import Derived.Test.YtbhaeaehgmpfhaaCU8
set_option linter.unusedVariables false
set_option linter.unusedSimpArgs false
set_option maxRecDepth 8000
namespace Go.AM
open Go.Proofs
def compR (ks : List Kind) (a b : List Twist) : AV := if psOk ks a ∧ psOk ks b then .tup [ttr (compS ks a b), .bl true] else .tup [.tr 2 [], .bl false]
abbrev smallT (s : List Twist) : Prop := s.length ≤ 1099511627776 ∧ ∀ t ∈ s, t.to.length ≤ 1099511627776 ∧ t.by'.length ≤ 1099511627776
theorem icomposePieces (ks : List Kind) (a b : List Twist) (h1 : ks.length ≤ 1099511627776) (ha : smallT a) (hb : smallT b) : SpecAt Try.prog 35 [ksl ks, tsl a, tsl b] (compR ks a b) := by
  refine spec_of_awp (M := MM) (np := 3) (fz := false) mixed Try.func35 rfl rfl (by decide) rfl (Nat.le_refl _) (by decide +kernel) (.inl rfl) (by first | trivial | simp only [sigsOk_nil, sigsOk_some, sigsOk_none, sig_tr, sig_pt, sig_mt, sig_agg, List.map_cons, List.map_nil, sig1_tr, sig1_pt, sig1_v, and_self, true_and, List.length_map, List.length_set]) ?_
  simp -dsimp -implicitDefEqProofs (disch := first | omega | (simp only [lenr]; done) | (simp only [lenr]; omega)) only [↓amPre, amAll, ↓reduceIte, reduceCtorEq, Nat.reduceEqDiff, Nat.reduceBEq, Nat.reduceAdd, Nat.reduceLeDiff, Nat.reduceSub, Nat.reduceMul, Int.reduceToNat, List.size_toArray, tyF, MM, bu0, ipure, kpure, tpure, sspure, kset, tset, ksnoc, tsnoc, Kind.av, Twist.sl, Twist.tr, Invar.av, stsize, stget, sttl, stapp, stext, tsspure, Model.sl, Model.tr]
  refine callP_of (iIsPieceState ks a h1 ha.1 ha.2) ?_
  by_cases pa : psOk ks a
  case neg =>
    have hR : compR ks a b = .tup [.tr 2 [], .bl false] := if_neg fun h => pa h.1
    simp -dsimp -implicitDefEqProofs (disch := first | omega | (simp only [lenr]; done) | (simp only [lenr]; omega)) only [↓amPre, amAll, ↓reduceIte, reduceCtorEq, Nat.reduceEqDiff, Nat.reduceBEq, Nat.reduceAdd, Nat.reduceLeDiff, Nat.reduceSub, Nat.reduceMul, Int.reduceToNat, List.size_toArray, tyF, MM, bu0, ipure, kpure, tpure, sspure, kset, tset, ksnoc, tsnoc, Kind.av, Twist.sl, Twist.tr, Invar.av, stsize, stget, sttl, stapp, stext, tsspure, Model.sl, Model.tr, pa, hR]
  simp -dsimp -implicitDefEqProofs (disch := first | omega | (simp only [lenr]; done) | (simp only [lenr]; omega)) only [↓amPre, amAll, ↓reduceIte, reduceCtorEq, Nat.reduceEqDiff, Nat.reduceBEq, Nat.reduceAdd, Nat.reduceLeDiff, Nat.reduceSub, Nat.reduceMul, Int.reduceToNat, List.size_toArray, tyF, MM, bu0, ipure, kpure, tpure, sspure, kset, tset, ksnoc, tsnoc, Kind.av, Twist.sl, Twist.tr, Invar.av, stsize, stget, sttl, stapp, stext, tsspure, Model.sl, Model.tr, pa]
  refine callP_of (iIsPieceState ks b h1 hb.1 hb.2) ?_
  by_cases pb : psOk ks b
  case neg =>
    have hR : compR ks a b = .tup [.tr 2 [], .bl false] := if_neg fun h => pb h.2
    simp -dsimp -implicitDefEqProofs (disch := first | omega | (simp only [lenr]; done) | (simp only [lenr]; omega)) only [↓amPre, amAll, ↓reduceIte, reduceCtorEq, Nat.reduceEqDiff, Nat.reduceBEq, Nat.reduceAdd, Nat.reduceLeDiff, Nat.reduceSub, Nat.reduceMul, Int.reduceToNat, List.size_toArray, tyF, MM, bu0, ipure, kpure, tpure, sspure, kset, tset, ksnoc, tsnoc, Kind.av, Twist.sl, Twist.tr, Invar.av, stsize, stget, sttl, stapp, stext, tsspure, Model.sl, Model.tr, pb, hR]
  have hR : compR ks a b = .tup [ttr (compS ks a b), .bl true] := if_pos ⟨pa, pb⟩
  have hl3 := pa.1.1.2
  have hal := pa.2.1
  have hbl := pb.2.1
  simp -dsimp -implicitDefEqProofs (disch := first | omega | (simp only [lenr]; done) | (simp only [lenr]; omega)) only [↓amPre, amAll, ↓reduceIte, reduceCtorEq, Nat.reduceEqDiff, Nat.reduceBEq, Nat.reduceAdd, Nat.reduceLeDiff, Nat.reduceSub, Nat.reduceMul, Int.reduceToNat, List.size_toArray, tyF, MM, bu0, ipure, kpure, tpure, sspure, kset, tset, ksnoc, tsnoc, Kind.av, Twist.sl, Twist.tr, Invar.av, stsize, stget, sttl, stapp, stext, tsspure, Model.sl, Model.tr, pb]
  refine awp_loopN 8 85 2 (by simp -dsimp -implicitDefEqProofs (disch := first | omega | (simp only [lenr]; done) | (simp only [lenr]; omega)) only [↓amPre, amAll, ↓reduceIte, reduceCtorEq, Nat.reduceEqDiff, Nat.reduceBEq, Nat.reduceAdd, Nat.reduceLeDiff, Nat.reduceSub, Nat.reduceMul, Int.reduceToNat, List.size_toArray, tyF, MM, bu0, ipure, kpure, tpure, sspure, kset, tset, ksnoc, tsnoc, Kind.av, Twist.sl, Twist.tr, Invar.av, stsize, stget, sttl, stapp, stext, tsspure, Model.sl, Model.tr]) (by decide) (fun k st => k ≤ ks.length ∧ st.fr 26 = .i64 k ∧ st.fr 25 = .i64 ks.length ∧ st.fr 24 = ksl ks ∧ st.fr 1 = tsl a ∧ st.fr 2 = tsl b ∧ st.fr 8 = .ref 85 [] 2 0 k ∧ st.mem 85 = some (ttr ((compS ks a b).take k))) (ks.length) ?_ ?_
  · simp -dsimp -implicitDefEqProofs (disch := first | omega | (simp only [lenr]; done) | (simp only [lenr]; omega)) only [↓amPre, amAll, ↓reduceIte, reduceCtorEq, Nat.reduceEqDiff, Nat.reduceBEq, Nat.reduceAdd, Nat.reduceLeDiff, Nat.reduceSub, Nat.reduceMul, Int.reduceToNat, List.size_toArray, tyF, MM, bu0, ipure, kpure, tpure, sspure, kset, tset, ksnoc, tsnoc, Kind.av, Twist.sl, Twist.tr, Invar.av, stsize, stget, sttl, stapp, stext, tsspure, Model.sl, Model.tr, nilAs_eq]
    simp
  rintro k st _ ⟨hk, f26, f25, f24, f1, f2, f8, m85⟩
  have hcl := compS_len ks a b
  have hml : ((compS ks a b).take k).length = k := by simp; omega
  by_cases hlt : k < ks.length
  · have hk := pa.1.2.1 _ (mem_getD ks k default hlt)
    have ta := tw_get pa hlt
    have tb := tw_get pb hlt
    have hms := take_succ_eq (compS ks a b) k default (by omega)
    rw [compS, range_map_get _ _ _ _ hlt, ← compS] at hms
    obtain ⟨c, o, hc, ho, la, la', c1, c2, o1, o2⟩ := twOk_facts ta hk
    obtain ⟨c', o', hc', ho', lb, lb', _⟩ := twOk_facts tb hk
    have ecc : c = c' := by omega
    subst ecc
    generalize hA : a.getD k default = A at ta la la' hms
    generalize hB : b.getD k default = B at tb lb lb' hms
    simp -dsimp -implicitDefEqProofs (disch := first | omega | (simp only [lenr]; done) | (simp only [lenr]; omega)) only [↓amPre, amAll, ↓reduceIte, reduceCtorEq, Nat.reduceEqDiff, Nat.reduceBEq, Nat.reduceAdd, Nat.reduceLeDiff, Nat.reduceSub, Nat.reduceMul, Int.reduceToNat, List.size_toArray, tyF, MM, bu0, ipure, kpure, tpure, sspure, kset, tset, ksnoc, tsnoc, Kind.av, Twist.sl, Twist.tr, Invar.av, stsize, stget, sttl, stapp, stext, tsspure, Model.sl, Model.tr, f26, f25, f24, f1, f2, f8, m85, hA, hB, hc, ho]
    refine callP_of (icompose A.to B.to (by omega) (fun x hx => by have := ta.2.2.1.2.1 x hx; omega)) ?_
    simp -dsimp -implicitDefEqProofs (disch := first | omega | (simp only [lenr]; done) | (simp only [lenr]; omega)) only [↓amPre, amAll, ↓reduceIte, reduceCtorEq, Nat.reduceEqDiff, Nat.reduceBEq, Nat.reduceAdd, Nat.reduceLeDiff, Nat.reduceSub, Nat.reduceMul, Int.reduceToNat, List.size_toArray, tyF, MM, bu0, ipure, kpure, tpure, sspure, kset, tset, ksnoc, tsnoc, Kind.av, Twist.sl, Twist.tr, Invar.av, stsize, stget, sttl, stapp, stext, tsspure, Model.sl, Model.tr, f26, f25, f24, f1, f2, f8, m85, hA, hB, hc, ho]
    have hcb : ((List.range A.to.length).map (compB o A B)).length = (List.replicate c (0:Int)).length := by simp [la]
    refine awp_loop (fun i st => i ≤ c ∧ st.fr 52 = .i64 i ∧ st.fr 51 = .i64 c ∧ st.fr 50 = isl A.to ∧ st.fr 26 = .i64 k ∧ st.fr 25 = .i64 ks.length ∧ st.fr 24 = ksl ks ∧ st.fr 1 = tsl a ∧ st.fr 2 = tsl b ∧ st.fr 9 = .i64 k ∧ st.fr 10 = .loc 10 [] 0 0 ∧ st.fr 11 = .loc 11 [] 0 0 ∧ st.fr 8 = .ref 85 [] 2 0 k ∧ st.mem 10 = some (.pt 2 (.agg [.i64 c, .i64 o])) ∧ st.mem 11 = some (.pt 2 (.agg [itr (compI A.to B.to), itr (mixL ((List.range A.to.length).map (compB o A B)) (List.replicate c 0) i)])) ∧ st.mem 85 = some (ttr ((compS ks a b).take k))) (c) ?_ ?_
    · simp -dsimp -implicitDefEqProofs (disch := first | omega | (simp only [lenr]; done) | (simp only [lenr]; omega)) only [↓amPre, amAll, ↓reduceIte, reduceCtorEq, Nat.reduceEqDiff, Nat.reduceBEq, Nat.reduceAdd, Nat.reduceLeDiff, Nat.reduceSub, Nat.reduceMul, Int.reduceToNat, List.size_toArray, tyF, MM, bu0, ipure, kpure, tpure, sspure, kset, tset, ksnoc, tsnoc, Kind.av, Twist.sl, Twist.tr, Invar.av, stsize, stget, sttl, stapp, stext, tsspure, Model.sl, Model.tr, f26, f25, f24, f1, f2, f8, m85, mixL_zero, la]
      simp
    rintro i st _ ⟨hi, f52, f51, f50, f26, f25, f24, f1, f2, f9, f10, f11, f8, m10, m11, m85⟩
    have hm := mixL_len ((List.range A.to.length).map (compB o A B)) (List.replicate c 0) i hcb
    rw [List.length_replicate] at hm
    by_cases hlt' : i < c
    · have hx := to_get ta (show i < A.to.length by omega)
      have hy := by_get ta (show i < A.by'.length by omega)
      have hz := by_get tb (show (A.to.getD i 0).toNat < B.by'.length by omega)
      have hs := mixL_set ((List.range A.to.length).map (compB o A B)) (List.replicate c 0) i 0 hcb (by simp; omega)
      rw [range_map_get _ _ _ _ (by omega), compB] at hs
      simp -dsimp -implicitDefEqProofs (disch := first | omega | (simp only [lenr]; done) | (simp only [lenr]; omega)) only [↓amPre, amAll, ↓reduceIte, reduceCtorEq, Nat.reduceEqDiff, Nat.reduceBEq, Nat.reduceAdd, Nat.reduceLeDiff, Nat.reduceSub, Nat.reduceMul, Int.reduceToNat, List.size_toArray, tyF, MM, bu0, ipure, kpure, tpure, sspure, kset, tset, ksnoc, tsnoc, Kind.av, Twist.sl, Twist.tr, Invar.av, stsize, stget, sttl, stapp, stext, tsspure, Model.sl, Model.tr, f52, f51, f50, f26, f25, f24, f1, f2, f9, f10, f11, f8, m10, m11, m85, hA, hB, hm, hs]
      repeat' (first | omega | rfl | exact i64c (by omega) | exact vic (by omega) | apply And.intro)
    · have hie : i = c := by omega
      subst hie
      have := mixL_all ((List.range A.to.length).map (compB o A B)) (List.replicate i 0) i (by simp; omega) (by simp)
      rw [compT, ho] at hms
      simp -dsimp -implicitDefEqProofs (disch := first | omega | (simp only [lenr]; done) | (simp only [lenr]; omega)) only [↓amPre, amAll, ↓reduceIte, reduceCtorEq, Nat.reduceEqDiff, Nat.reduceBEq, Nat.reduceAdd, Nat.reduceLeDiff, Nat.reduceSub, Nat.reduceMul, Int.reduceToNat, List.size_toArray, tyF, MM, bu0, ipure, kpure, tpure, sspure, kset, tset, ksnoc, tsnoc, Kind.av, Twist.sl, Twist.tr, Invar.av, stsize, stget, sttl, stapp, stext, tsspure, Model.sl, Model.tr, f52, f51, f50, f26, f25, f24, f1, f2, f9, f10, f11, f8, m10, m11, m85, hm, hml, this, ← hms]
      repeat' (first | omega | rfl | exact i64c (by omega) | exact vic (by omega) | apply And.intro)
  · have hke : k = ks.length := by omega
    subst hke
    simp -dsimp -implicitDefEqProofs (disch := first | omega | (simp only [lenr]; done) | (simp only [lenr]; omega)) only [↓amPre, amAll, ↓reduceIte, reduceCtorEq, Nat.reduceEqDiff, Nat.reduceBEq, Nat.reduceAdd, Nat.reduceLeDiff, Nat.reduceSub, Nat.reduceMul, Int.reduceToNat, List.size_toArray, tyF, MM, bu0, ipure, kpure, tpure, sspure, kset, tset, ksnoc, tsnoc, Kind.av, Twist.sl, Twist.tr, Invar.av, stsize, stget, sttl, stapp, stext, tsspure, Model.sl, Model.tr, f26, f25, f24, f1, f2, f8, m85, hml, hcl, hR]
end Go.AM

/-
  CONTRACTS of functions of the program, and what they compute, by content.
-/
import Derived.Test.YtbhaeaehgmpfhaaCU23
set_option linter.unusedVariables false
set_option linter.unusedSimpArgs false
set_option maxRecDepth 8000
namespace Go.AM
open Go.Proofs
theorem wrap_in {x b n : Int} (hx : intOk x) (h0 : 0 ≤ b) (h1 : b ≤ 20) (hn : n ≤ 20) (h : 0 ≤ IntKind.i64.wrap (x - b) ∧ IntKind.i64.wrap (x - b) ≤ n - 1) : 0 ≤ x - b ∧ x - b ≤ n - 1 := by
  rw [IntKind.wrap_i64] at h; unfold intOk at hx; omega
theorem sPermToPieces (ks : List Kind) (p : List Int) (h1 : ks.length ≤ 1099511627776) (hp : p.length ≤ 1099511627776) (hpi : ∀ x ∈ p, intOk x) : SpecAt Try.prog 30 [ksl ks, isl p] (.tup [ttr (ptpR ks p), .bl (decide (ptpOk ks p))]) := by
  refine spec_of_awp (M := MM) (np := 2) (fz := false) mixed Try.func30 rfl rfl (by decide) rfl (Nat.le_refl _) (by decide +kernel) (.inl rfl) (by first | trivial | simp only [sigsOk_nil, sigsOk_some, sigsOk_none, sig_tr, sig_pt, sig_mt, sig_agg, List.map_cons, List.map_nil, sig1_tr, sig1_pt, sig1_v, and_self, true_and, List.length_map, List.length_set]) ?_
  simp -dsimp -implicitDefEqProofs (disch := first | omega | (simp only [lenr]; done) | (simp only [lenr]; omega)) only [↓amPre, amAll, ↓reduceIte, reduceCtorEq, Nat.reduceEqDiff, Nat.reduceBEq, Nat.reduceAdd, Nat.reduceLeDiff, Nat.reduceSub, Nat.reduceMul, Int.reduceToNat, List.size_toArray, tyF, MM, bu0, ipure, kpure, tpure, sspure, kset, tset, ksnoc, tsnoc, Kind.av, Twist.sl, Twist.tr, Invar.av, stsize, stget, sttl, stapp, stext, tsspure, Model.sl, Model.tr, vset, vsnoc, vpure]
  refine callP_of (sAreValidKinds ks h1) ?_
  have neg : ¬ ptpOk ks p → ptpR ks p = [] := fun h => if_neg h
  by_cases c1 : kindsOk ks
  case neg =>
    have hn : ¬ ptpOk ks p := fun h => c1 h.1
    simp -dsimp -implicitDefEqProofs (disch := first | omega | (simp only [lenr]; done) | (simp only [lenr]; omega)) only [↓amPre, amAll, ↓reduceIte, reduceCtorEq, Nat.reduceEqDiff, Nat.reduceBEq, Nat.reduceAdd, Nat.reduceLeDiff, Nat.reduceSub, Nat.reduceMul, Int.reduceToNat, List.size_toArray, tyF, MM, bu0, ipure, kpure, tpure, sspure, kset, tset, ksnoc, tsnoc, Kind.av, Twist.sl, Twist.tr, Invar.av, stsize, stget, sttl, stapp, stext, tsspure, Model.sl, Model.tr, vset, vsnoc, vpure, c1, neg hn, decide_eq_false hn]
  have hl3 := c1.1.2
  have hf20 := c1.2.2
  simp -dsimp -implicitDefEqProofs (disch := first | omega | (simp only [lenr]; done) | (simp only [lenr]; omega)) only [↓amPre, amAll, ↓reduceIte, reduceCtorEq, Nat.reduceEqDiff, Nat.reduceBEq, Nat.reduceAdd, Nat.reduceLeDiff, Nat.reduceSub, Nat.reduceMul, Int.reduceToNat, List.size_toArray, tyF, MM, bu0, ipure, kpure, tpure, sspure, kset, tset, ksnoc, tsnoc, Kind.av, Twist.sl, Twist.tr, Invar.av, stsize, stget, sttl, stapp, stext, tsspure, Model.sl, Model.tr, vset, vsnoc, vpure, c1]
  refine callP_of (sFacelets ks c1) ?_
  by_cases c2 : (p.length : Int) = facets ks
  case neg =>
    have hn : ¬ ptpOk ks p := fun h => c2 h.2.1
    simp -dsimp -implicitDefEqProofs (disch := first | omega | (simp only [lenr]; done) | (simp only [lenr]; omega)) only [↓amPre, amAll, ↓reduceIte, reduceCtorEq, Nat.reduceEqDiff, Nat.reduceBEq, Nat.reduceAdd, Nat.reduceLeDiff, Nat.reduceSub, Nat.reduceMul, Int.reduceToNat, List.size_toArray, tyF, MM, bu0, ipure, kpure, tpure, sspure, kset, tset, ksnoc, tsnoc, Kind.av, Twist.sl, Twist.tr, Invar.av, stsize, stget, sttl, stapp, stext, tsspure, Model.sl, Model.tr, vset, vsnoc, vpure, c1, ne_true c2, neg hn, decide_eq_false hn]
  simp -dsimp -implicitDefEqProofs (disch := first | omega | (simp only [lenr]; done) | (simp only [lenr]; omega)) only [↓amPre, amAll, ↓reduceIte, reduceCtorEq, Nat.reduceEqDiff, Nat.reduceBEq, Nat.reduceAdd, Nat.reduceLeDiff, Nat.reduceSub, Nat.reduceMul, Int.reduceToNat, List.size_toArray, tyF, MM, bu0, ipure, kpure, tpure, sspure, kset, tset, ksnoc, tsnoc, Kind.av, Twist.sl, Twist.tr, Invar.av, stsize, stget, sttl, stapp, stext, tsspure, Model.sl, Model.tr, vset, vsnoc, vpure, c1, ne_false c2]
  refine awp_loopR 24 87 (.tr 2 []) (by simp -dsimp -implicitDefEqProofs (disch := first | omega | (simp only [lenr]; done) | (simp only [lenr]; omega)) only [↓amPre, amAll, ↓reduceIte, reduceCtorEq, Nat.reduceEqDiff, Nat.reduceBEq, Nat.reduceAdd, Nat.reduceLeDiff, Nat.reduceSub, Nat.reduceMul, Int.reduceToNat, List.size_toArray, tyF, MM, bu0, ipure, kpure, tpure, sspure, kset, tset, ksnoc, tsnoc, Kind.av, Twist.sl, Twist.tr, Invar.av, stsize, stget, sttl, stapp, stext, tsspure, Model.sl, Model.tr, vset, vsnoc, vpure]) (by decide) (by decide) (by decide) (fun k st => k ≤ ks.length ∧ st.fr 8 = .i64 k ∧ st.fr 0 = ksl ks ∧ st.fr 1 = isl p ∧ st.fr 7 = .i64 (facets (ks.take k)) ∧ st.fr 6 = .ref 87 [] 2 0 k ∧ st.mem 87 = some (ttr (candL ks p k))) (ks.length) ?_ ?_
  · simp -dsimp -implicitDefEqProofs (disch := first | omega | (simp only [lenr]; done) | (simp only [lenr]; omega)) only [↓amPre, amAll, ↓reduceIte, reduceCtorEq, Nat.reduceEqDiff, Nat.reduceBEq, Nat.reduceAdd, Nat.reduceLeDiff, Nat.reduceSub, Nat.reduceMul, Int.reduceToNat, List.size_toArray, tyF, MM, bu0, ipure, kpure, tpure, sspure, kset, tset, ksnoc, tsnoc, Kind.av, Twist.sl, Twist.tr, Invar.av, stsize, stget, sttl, stapp, stext, tsspure, Model.sl, Model.tr, vset, vsnoc, vpure, ren_eq]
    simp [facets, candL]
  rintro k st _ ⟨hk, f8, f0, f1, f7, f6, m87⟩
  have hcl := candL_len ks p k
  by_cases hlt : k < ks.length
  · obtain ⟨c, o, b, hc, ho, hb, g1, g2, g3, g4, g5, g6⟩ := kind_room c1 hlt
    have hcs := candL_succ ks p k
    rw [candT, hc, ho, hb, Int.toNat_natCast, Int.toNat_natCast, Int.toNat_natCast] at hcs
    have hb' : (facets (ks.take k)).toNat = b := by rw [hb, Int.toNat_natCast]
    rw [hb] at f7
    have hcoN : ((c : Int) * o) = ((c * o : Nat) : Int) := by simp
    have hwco : IntKind.i64.wrap ((c : Int) * o) = ((c * o : Nat) : Int) := by rw [hcoN]; exact wrap64_id (by omega)
    simp -dsimp -implicitDefEqProofs (disch := first | omega | (simp only [lenr]; done) | (simp only [lenr]; omega)) only [↓amPre, amAll, ↓reduceIte, reduceCtorEq, Nat.reduceEqDiff, Nat.reduceBEq, Nat.reduceAdd, Nat.reduceLeDiff, Nat.reduceSub, Nat.reduceMul, Int.reduceToNat, List.size_toArray, tyF, MM, bu0, ipure, kpure, tpure, sspure, kset, tset, ksnoc, tsnoc, Kind.av, Twist.sl, Twist.tr, Invar.av, stsize, stget, sttl, stapp, stext, tsspure, Model.sl, Model.tr, vset, vsnoc, vpure, f8, f0, f1, f7, f6, m87, hc, ho]
    refine awp_loopD 10 2 1 (by simp -dsimp -implicitDefEqProofs (disch := first | omega | (simp only [lenr]; done) | (simp only [lenr]; omega)) only [↓amPre, amAll, ↓reduceIte, reduceCtorEq, Nat.reduceEqDiff, Nat.reduceBEq, Nat.reduceAdd, Nat.reduceLeDiff, Nat.reduceSub, Nat.reduceMul, Int.reduceToNat, List.size_toArray, tyF, MM, bu0, ipure, kpure, tpure, sspure, kset, tset, ksnoc, tsnoc, Kind.av, Twist.sl, Twist.tr, Invar.av, stsize, stget, sttl, stapp, stext, tsspure, Model.sl, Model.tr, vset, vsnoc, vpure, f8, f0, f1, f7, f6, m87]) (fun i st => i ≤ c ∧ st.fr 11 = .i64 i ∧ st.fr 9 = .i64 o ∧ st.fr 10 = .loc 10 [] 0 0 ∧ st.fr 8 = .i64 k ∧ st.fr 0 = ksl ks ∧ st.fr 1 = isl p ∧ st.fr 7 = .i64 b ∧ st.fr 6 = .ref 87 [] 2 0 k ∧ st.mem 10 = some (.pt 2 (.agg [itr (ctL p b o i), itr (cbL p b o i)])) ∧ st.mem 87 = some (ttr (candL ks p k))) (c) ?_ ?_
    · simp -dsimp -implicitDefEqProofs (disch := first | omega | (simp only [lenr]; done) | (simp only [lenr]; omega)) only [↓amPre, amAll, ↓reduceIte, reduceCtorEq, Nat.reduceEqDiff, Nat.reduceBEq, Nat.reduceAdd, Nat.reduceLeDiff, Nat.reduceSub, Nat.reduceMul, Int.reduceToNat, List.size_toArray, tyF, MM, bu0, ipure, kpure, tpure, sspure, kset, tset, ksnoc, tsnoc, Kind.av, Twist.sl, Twist.tr, Invar.av, stsize, stget, sttl, stapp, stext, tsspure, Model.sl, Model.tr, vset, vsnoc, vpure, nilC2_eq, f8, f0, f1, f7, f6, m87]
      simp [ctL, cbL]
    rintro i st _ ⟨hi, f11, f9, f10, f8, f0, f1, f7, f6, m10, m87⟩
    have hio := natmul_bound (show i ≤ 20 by omega) g4
    have hl1 := ctL_len p b o i
    have hl2 := cbL_len p b o i
    have hl3' := ctL_len p b o (i + 1)
    have hl4 := cbL_len p b o (i + 1)
    by_cases hlt' : i < c
    · have hidx : b + i * o < p.length := by
        have : (i + 1) * o ≤ c * o := Nat.mul_le_mul_right _ hlt'
        rw [Nat.succ_mul] at this
        omega
      have hpx := hpi _ (mem_getD p (b + i * o) 0 hidx)
      have hw1 : IntKind.i64.wrap ((i : Int) * o) = ((i * o : Nat) : Int) := by rw [← Int.natCast_mul]; exact wrap64_id (by omega)
      have hw2 : IntKind.i64.wrap ((b : Int) + ((i * o : Nat) : Int)) = ((b + i * o : Nat) : Int) := by rw [← Int.natCast_add]; exact wrap64_id (by omega)
      have hpa : p.getD (b + i * o) 0 - b = pAt p b o i := rfl
      by_cases c4 : 0 ≤ pAt p b o i ∧ pAt p b o i ≤ (c : Int) * o - 1
      case neg =>
        have hn := ptp_out c1 hlt hc ho hb' hlt' c4
        have hw : within (IntKind.i64.wrap (p.getD (b + i * o) 0 - b)) 0 (((c * o : Nat) : Int) - 1) = false := by
          rw [within_not]
          intro q
          rw [← hpa, hcoN] at c4
          exact c4 (wrap_in hpx (by omega) (by omega) (by omega) q)
        simp -dsimp -implicitDefEqProofs (disch := first | omega | (simp only [lenr]; done) | (simp only [lenr]; omega)) only [↓amPre, amAll, ↓reduceIte, reduceCtorEq, Nat.reduceEqDiff, Nat.reduceBEq, Nat.reduceAdd, Nat.reduceLeDiff, Nat.reduceSub, Nat.reduceMul, Int.reduceToNat, List.size_toArray, tyF, MM, bu0, ipure, kpure, tpure, sspure, kset, tset, ksnoc, tsnoc, Kind.av, Twist.sl, Twist.tr, Invar.av, stsize, stget, sttl, stapp, stext, tsspure, Model.sl, Model.tr, vset, vsnoc, vpure, f11, f9, f10, f8, f0, f1, f7, f6, m10, m87, hc, ho, hw1, hw2, hwco]
        refine callP_of (inRange _ _ _) ?_
        simp -dsimp -implicitDefEqProofs (disch := first | omega | (simp only [lenr]; done) | (simp only [lenr]; omega)) only [↓amPre, amAll, ↓reduceIte, reduceCtorEq, Nat.reduceEqDiff, Nat.reduceBEq, Nat.reduceAdd, Nat.reduceLeDiff, Nat.reduceSub, Nat.reduceMul, Int.reduceToNat, List.size_toArray, tyF, MM, bu0, ipure, kpure, tpure, sspure, kset, tset, ksnoc, tsnoc, Kind.av, Twist.sl, Twist.tr, Invar.av, stsize, stget, sttl, stapp, stext, tsspure, Model.sl, Model.tr, vset, vsnoc, vpure, hw, neg hn, decide_eq_false hn]
      have hw3 : IntKind.i64.wrap (p.getD (b + i * o) 0 - b) = pAt p b o i := by rw [hpa]; exact wrap64_id (by rw [hcoN] at c4; omega)
      have hw4 := tdiv_small (pAt p b o i) o (by rw [hcoN] at c4; omega) (by rw [hcoN] at c4; omega)
      have hw : within (pAt p b o i) 0 (((c * o : Nat) : Int) - 1) = true := by rw [within_iff, ← hcoN]; exact c4
      have hs1 := ctL_succ p b o i
      have hs2 := cbL_succ p b o i
      simp -dsimp -implicitDefEqProofs (disch := first | omega | (simp only [lenr]; done) | (simp only [lenr]; omega)) only [↓amPre, amAll, ↓reduceIte, reduceCtorEq, Nat.reduceEqDiff, Nat.reduceBEq, Nat.reduceAdd, Nat.reduceLeDiff, Nat.reduceSub, Nat.reduceMul, Int.reduceToNat, List.size_toArray, tyF, MM, bu0, ipure, kpure, tpure, sspure, kset, tset, ksnoc, tsnoc, Kind.av, Twist.sl, Twist.tr, Invar.av, stsize, stget, sttl, stapp, stext, tsspure, Model.sl, Model.tr, vset, vsnoc, vpure, f11, f9, f10, f8, f0, f1, f7, f6, m10, m87, hc, ho, hw1, hw2, hw3, hwco]
      refine callP_of (inRange _ _ _) ?_
      simp -dsimp -implicitDefEqProofs (disch := first | omega | (simp only [lenr]; done) | (simp only [lenr]; omega)) only [↓amPre, amAll, ↓reduceIte, reduceCtorEq, Nat.reduceEqDiff, Nat.reduceBEq, Nat.reduceAdd, Nat.reduceLeDiff, Nat.reduceSub, Nat.reduceMul, Int.reduceToNat, List.size_toArray, tyF, MM, bu0, ipure, kpure, tpure, sspure, kset, tset, ksnoc, tsnoc, Kind.av, Twist.sl, Twist.tr, Invar.av, stsize, stget, sttl, stapp, stext, tsspure, Model.sl, Model.tr, vset, vsnoc, vpure, f11, f9, f10, f8, f0, f1, f7, f6, m10, m87, hw, hw4, hl1, hl2, ← hs1, ← hs2, hl3', hl4]
      repeat' (first | omega | rfl | exact i64c (by omega) | exact vic (by omega) | apply And.intro)
    · have hie : i = c := by omega
      subst hie
      have hw2 : IntKind.i64.wrap ((b : Int) + ((i * o : Nat) : Int)) = ((b + i * o : Nat) : Int) := by rw [← Int.natCast_add]; exact wrap64_id (by omega)
      simp -dsimp -implicitDefEqProofs (disch := first | omega | (simp only [lenr]; done) | (simp only [lenr]; omega)) only [↓amPre, amAll, ↓reduceIte, reduceCtorEq, Nat.reduceEqDiff, Nat.reduceBEq, Nat.reduceAdd, Nat.reduceLeDiff, Nat.reduceSub, Nat.reduceMul, Int.reduceToNat, List.size_toArray, tyF, MM, bu0, ipure, kpure, tpure, sspure, kset, tset, ksnoc, tsnoc, Kind.av, Twist.sl, Twist.tr, Invar.av, stsize, stget, sttl, stapp, stext, tsspure, Model.sl, Model.tr, vset, vsnoc, vpure, f11, f9, f10, f8, f0, f1, f7, f6, m10, m87, hc, ho, hcl, hl1, hl2, ← hcs, hwco, hw2, g6]
      repeat' (first | omega | rfl | exact i64c (by omega) | exact vic (by omega) | apply And.intro)
  · have hke : k = ks.length := by omega
    subst hke
    have hfew := fewT_small (cand_few ks p c1)
    simp -dsimp -implicitDefEqProofs (disch := first | omega | (simp only [lenr]; done) | (simp only [lenr]; omega)) only [↓amPre, amAll, ↓reduceIte, reduceCtorEq, Nat.reduceEqDiff, Nat.reduceBEq, Nat.reduceAdd, Nat.reduceLeDiff, Nat.reduceSub, Nat.reduceMul, Int.reduceToNat, List.size_toArray, tyF, MM, bu0, ipure, kpure, tpure, sspure, kset, tset, ksnoc, tsnoc, Kind.av, Twist.sl, Twist.tr, Invar.av, stsize, stget, sttl, stapp, stext, tsspure, Model.sl, Model.tr, vset, vsnoc, vpure, f8, f0, f1, f7, f6, m87, hcl, tfz]
    refine callP_of (sIsPieceState ks (candL ks p ks.length) h1 hfew.1 hfew.2) ?_
    by_cases c4 : psOk ks (candL ks p ks.length)
    case neg =>
      have hn : ¬ ptpOk ks p := fun h => c4 h.2.2.1
      simp -dsimp -implicitDefEqProofs (disch := first | omega | (simp only [lenr]; done) | (simp only [lenr]; omega)) only [↓amPre, amAll, ↓reduceIte, reduceCtorEq, Nat.reduceEqDiff, Nat.reduceBEq, Nat.reduceAdd, Nat.reduceLeDiff, Nat.reduceSub, Nat.reduceMul, Int.reduceToNat, List.size_toArray, tyF, MM, bu0, ipure, kpure, tpure, sspure, kset, tset, ksnoc, tsnoc, Kind.av, Twist.sl, Twist.tr, Invar.av, stsize, stget, sttl, stapp, stext, tsspure, Model.sl, Model.tr, vset, vsnoc, vpure, c4, neg hn, decide_eq_false hn]
    simp -dsimp -implicitDefEqProofs (disch := first | omega | (simp only [lenr]; done) | (simp only [lenr]; omega)) only [↓amPre, amAll, ↓reduceIte, reduceCtorEq, Nat.reduceEqDiff, Nat.reduceBEq, Nat.reduceAdd, Nat.reduceLeDiff, Nat.reduceSub, Nat.reduceMul, Int.reduceToNat, List.size_toArray, tyF, MM, bu0, ipure, kpure, tpure, sspure, kset, tset, ksnoc, tsnoc, Kind.av, Twist.sl, Twist.tr, Invar.av, stsize, stget, sttl, stapp, stext, tsspure, Model.sl, Model.tr, vset, vsnoc, vpure, f8, f0, f1, f7, f6, m87, c4, hcl, tfz]
    refine callP_of (sl21Permutation ks (candL ks p ks.length) c4) ?_
    have hpl := permOf_le c4
    simp -dsimp -implicitDefEqProofs (disch := first | omega | (simp only [lenr]; done) | (simp only [lenr]; omega)) only [↓amPre, amAll, ↓reduceIte, reduceCtorEq, Nat.reduceEqDiff, Nat.reduceBEq, Nat.reduceAdd, Nat.reduceLeDiff, Nat.reduceSub, Nat.reduceMul, Int.reduceToNat, List.size_toArray, tyF, MM, bu0, ipure, kpure, tpure, sspure, kset, tset, ksnoc, tsnoc, Kind.av, Twist.sl, Twist.tr, Invar.av, stsize, stget, sttl, stapp, stext, tsspure, Model.sl, Model.tr, vset, vsnoc, vpure, f8, f0, f1, f7, f6, m87, c4]
    refine callP_of (sEqualInts (permOf ks (candL ks p ks.length)) p (by omega)) ?_
    by_cases c5 : permOf ks (candL ks p ks.length) = p
    · have hy : ptpOk ks p := ⟨c1, c2, c4, c5⟩
      have hR : ptpR ks p = candL ks p ks.length := if_pos hy
      simp -dsimp -implicitDefEqProofs (disch := first | omega | (simp only [lenr]; done) | (simp only [lenr]; omega)) only [↓amPre, amAll, ↓reduceIte, reduceCtorEq, Nat.reduceEqDiff, Nat.reduceBEq, Nat.reduceAdd, Nat.reduceLeDiff, Nat.reduceSub, Nat.reduceMul, Int.reduceToNat, List.size_toArray, tyF, MM, bu0, ipure, kpure, tpure, sspure, kset, tset, ksnoc, tsnoc, Kind.av, Twist.sl, Twist.tr, Invar.av, stsize, stget, sttl, stapp, stext, tsspure, Model.sl, Model.tr, vset, vsnoc, vpure, f8, f0, f1, f7, f6, m87, c4, decide_eq_true c5, hR, decide_eq_true hy, hcl]
    · have hn : ¬ ptpOk ks p := fun h => c5 h.2.2.2
      simp -dsimp -implicitDefEqProofs (disch := first | omega | (simp only [lenr]; done) | (simp only [lenr]; omega)) only [↓amPre, amAll, ↓reduceIte, reduceCtorEq, Nat.reduceEqDiff, Nat.reduceBEq, Nat.reduceAdd, Nat.reduceLeDiff, Nat.reduceSub, Nat.reduceMul, Int.reduceToNat, List.size_toArray, tyF, MM, bu0, ipure, kpure, tpure, sspure, kset, tset, ksnoc, tsnoc, Kind.av, Twist.sl, Twist.tr, Invar.av, stsize, stget, sttl, stapp, stext, tsspure, Model.sl, Model.tr, vset, vsnoc, vpure, c4, decide_eq_false c5, neg hn, decide_eq_false hn]
theorem ptp_few (ks : List Kind) (p : List Int) : fewT (ptpR ks p) := by
  unfold ptpR; split
  · rename_i h; exact cand_few ks p h.1
  · exact fewT_nil
end Go.AM

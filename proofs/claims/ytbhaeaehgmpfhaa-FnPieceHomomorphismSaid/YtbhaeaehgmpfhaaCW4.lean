/-
  CONTRACTS of functions of the program, and what they compute, by content.
-/
import Derived.Test.YtbhaeaehgmpfhaaCW3
set_option linter.unusedVariables false
set_option linter.unusedSimpArgs false
set_option maxRecDepth 8000
namespace Go.AM
namespace Draws
open Go.Proofs
noncomputable def byK (s : Src) (o : Int) : Nat → Src × List Int
  | 0 => (s, [])
  | k + 1 => (bS (byK s o k).1 o, (byK s o k).2 ++ [bX (byK s o k).1 o])
theorem byK_ok (s : Src) (o : Int) (h : s.ok) (ho : intOk o) : ∀ k, (byK s o k).1.ok ∧ (byK s o k).2.length = k
  | 0 => ⟨h, rfl⟩
  | k + 1 => by
    have ih := byK_ok s o h ho k
    exact ⟨(belowF _ o ih.1 ho).2.1, by simp only [byK, List.length_append, List.length_singleton, ih.2]⟩
noncomputable def dsK (s : Src) (ks : List Kind) : Nat → Src × List Twist
  | 0 => (s, [])
  | k + 1 => ((byK (ordK (dsK s ks k).1 (ks.getD k default).c.toNat).1 (ks.getD k default).o (ks.getD k default).c.toNat).1, (dsK s ks k).2 ++ [⟨(ordK (dsK s ks k).1 (ks.getD k default).c.toNat).2, (byK (ordK (dsK s ks k).1 (ks.getD k default).c.toNat).1 (ks.getD k default).o (ks.getD k default).c.toNat).2⟩])
theorem dsK_ok (s : Src) (ks : List Kind) (h : s.ok) (hk : kindsOk ks) : ∀ k, k ≤ ks.length → (dsK s ks k).1.ok ∧ (dsK s ks k).2.length = k
  | 0, _ => ⟨h, rfl⟩
  | k + 1, hlt => by
    have ih := dsK_ok s ks h hk k (by omega)
    obtain ⟨c1, c2, o1, o2, _⟩ := kindsOk_kind hk (mem_getD ks k default (by omega))
    have h1 := ordK_ok (dsK s ks k).1 ih.1 (ks.getD k default).c.toNat (by omega)
    exact ⟨(byK_ok _ _ h1.1 (by unfold intOk; omega) _).1, by simp only [dsK, List.length_append, List.length_singleton, ih.2]⟩
theorem drawState (s : Src) (ks : List Kind) (h : s.ok) (hkk : kindsOk ks) : SpecX Try.prog 102 [s.pt, ktr ks] [some (dsK s ks ks.length).1.pt, some (ktr ks)] (ttr (dsK s ks ks.length).2) := by
  have hl3 := hkk.1.2
  refine spec_of_awp_any (M := MM) (np := 2) (X := [9]) (fz := false) mixed Try.func102 rfl rfl (by decide) rfl (Nat.le_refl _) (by decide +kernel) (.inl rfl) (by simp only [sigsOk_some, sigsOk_nil, and_true]; rfl) ?_
  simp -dsimp -implicitDefEqProofs (disch := first | omega | (simp only [lenr]; done) | (simp only [lenr]; omega)) only [↓amPre, amAll, ↓reduceIte, reduceCtorEq, Nat.reduceEqDiff, Nat.reduceBEq, Nat.reduceAdd, Nat.reduceLeDiff, Nat.reduceSub, Nat.reduceMul, Int.reduceToNat, List.size_toArray, tyF, MM, bu0, ipure, kpure, tpure, sspure, kset, tset, ksnoc, tsnoc, Kind.av, Twist.sl, Twist.tr, Invar.av]
  refine awp_loopR 9 48 (.tr 2 []) (by simp -dsimp -implicitDefEqProofs (disch := first | omega | (simp only [lenr]; done) | (simp only [lenr]; omega)) only [↓amPre, amAll, ↓reduceIte, reduceCtorEq, Nat.reduceEqDiff, Nat.reduceBEq, Nat.reduceAdd, Nat.reduceLeDiff, Nat.reduceSub, Nat.reduceMul, Int.reduceToNat, List.size_toArray, tyF, MM, bu0, ipure, kpure, tpure, sspure, kset, tset, ksnoc, tsnoc, Kind.av, Twist.sl, Twist.tr, Invar.av]) (by decide) (by decide) (by decide) (fun k st => k ≤ ks.length ∧ st.fr 6 = .i64 k ∧ st.fr 1 = .ref 1 [] 2 0 ks.length ∧ st.fr 5 = .ref 48 [] 2 0 k ∧ st.fr 0 = .loc 0 [] 0 0 ∧ st.mem 48 = some (ttr (dsK s ks k).2) ∧ st.mem 0 = some ((dsK s ks k).1.pt) ∧ st.mem 1 = some (ktr ks)) (ks.length) ?_ ?_
  · simp -dsimp -implicitDefEqProofs (disch := first | omega | (simp only [lenr]; done) | (simp only [lenr]; omega)) only [↓amPre, amAll, ↓reduceIte, reduceCtorEq, Nat.reduceEqDiff, Nat.reduceBEq, Nat.reduceAdd, Nat.reduceLeDiff, Nat.reduceSub, Nat.reduceMul, Int.reduceToNat, List.size_toArray, tyF, MM, bu0, ipure, kpure, tpure, sspure, kset, tset, ksnoc, tsnoc, Kind.av, Twist.sl, Twist.tr, Invar.av, ren_eq]
    simp [dsK]
  rintro k st _ ⟨hk, f6, f1, f5, f0, m48, m0, m1⟩
  have ho := dsK_ok s ks h hkk k (by omega)
  have hds : dsK s ks (k + 1) = _ := rfl
  conv at hds => rhs; rw [dsK]
  by_cases hlt : k < ks.length
  · obtain ⟨c1, c2, o1, o2, _⟩ := kindsOk_kind hkk (mem_getD ks k default hlt)
    obtain ⟨c, hc⟩ : ∃ c : Nat, (ks.getD k default).c = c := ⟨(ks.getD k default).c.toNat, by omega⟩
    rw [hc, Int.toNat_natCast] at hds
    have hor := ordK_ok (dsK s ks k).1 ho.1 c (by omega)
    have hdo := drawOrder (dsK s ks k).1 c ho.1 (by omega)
    have hby := byK_ok (ordK (dsK s ks k).1 c).1 (ks.getD k default).o hor.1 (by unfold intOk; omega)
    generalize hT : (dsK s ks k).2 = T at hds ho m48
    generalize hS : (dsK s ks k).1 = S at hds ho m0 hdo hor hby
    generalize hS1 : (ordK S c).1 = S1 at hds hdo hor hby
    generalize hL : (ordK S c).2 = L at hds hdo hor
    simp -dsimp -implicitDefEqProofs (disch := first | omega | (simp only [lenr]; done) | (simp only [lenr]; omega)) only [↓amPre, amAll, ↓reduceIte, reduceCtorEq, Nat.reduceEqDiff, Nat.reduceBEq, Nat.reduceAdd, Nat.reduceLeDiff, Nat.reduceSub, Nat.reduceMul, Int.reduceToNat, List.size_toArray, tyF, MM, bu0, ipure, kpure, tpure, sspure, kset, tset, ksnoc, tsnoc, Kind.av, Twist.sl, Twist.tr, Invar.av, f6, f1, f5, f0, m48, m0, m1, hc, ho.2]
    refine callX_of (hdo) ?_
    simp -dsimp -implicitDefEqProofs (disch := first | omega | (simp only [lenr]; done) | (simp only [lenr]; omega)) only [↓amPre, amAll, ↓reduceIte, reduceCtorEq, Nat.reduceEqDiff, Nat.reduceBEq, Nat.reduceAdd, Nat.reduceLeDiff, Nat.reduceSub, Nat.reduceMul, Int.reduceToNat, List.size_toArray, tyF, MM, bu0, ipure, kpure, tpure, sspure, kset, tset, ksnoc, tsnoc, Kind.av, Twist.sl, Twist.tr, Invar.av, f6, f1, f5, f0, m48, m0, m1, hc, ho.2]
    refine awp_loopC 7 1 2 1 [itr L, .nilsl] (by simp -dsimp -implicitDefEqProofs (disch := first | omega | (simp only [lenr]; done) | (simp only [lenr]; omega)) only [↓amPre, amAll, ↓reduceIte, reduceCtorEq, Nat.reduceEqDiff, Nat.reduceBEq, Nat.reduceAdd, Nat.reduceLeDiff, Nat.reduceSub, Nat.reduceMul, Int.reduceToNat, List.size_toArray, tyF, MM, bu0, ipure, kpure, tpure, sspure, kset, tset, ksnoc, tsnoc, Kind.av, Twist.sl, Twist.tr, Invar.av, f6, f1, f5, f0, m48, m0, m1]) (by simp) (by simp) (fun i st => i ≤ c ∧ st.fr 8 = .i64 i ∧ st.fr 7 = .loc 7 [] 0 0 ∧ st.fr 6 = .i64 k ∧ st.fr 1 = .ref 1 [] 2 0 ks.length ∧ st.fr 5 = .ref 48 [] 2 0 k ∧ st.fr 0 = .loc 0 [] 0 0 ∧ st.mem 48 = some (ttr T) ∧ st.mem 7 = some (.pt 2 (.agg [itr L, itr (byK S1 (ks.getD k default).o i).2])) ∧ st.mem 0 = some ((byK S1 (ks.getD k default).o i).1.pt) ∧ st.mem 1 = some (ktr ks)) (c) ?_ ?_
    · simp -dsimp -implicitDefEqProofs (disch := first | omega | (simp only [lenr]; done) | (simp only [lenr]; omega)) only [↓amPre, amAll, ↓reduceIte, reduceCtorEq, Nat.reduceEqDiff, Nat.reduceBEq, Nat.reduceAdd, Nat.reduceLeDiff, Nat.reduceSub, Nat.reduceMul, Int.reduceToNat, List.size_toArray, tyF, MM, bu0, ipure, kpure, tpure, sspure, kset, tset, ksnoc, tsnoc, Kind.av, Twist.sl, Twist.tr, Invar.av, nilC_eq, f6, f1, f5, f0, m48, m0, m1]
      simp [byK]
    rintro i st _ ⟨hi, f8, f7, f6, f1, f5, f0, m48, m7, m0, m1⟩
    have hbi := hby i
    have hb1 : byK S1 (ks.getD k default).o (i + 1) = _ := rfl
    conv at hb1 => rhs; rw [byK]
    by_cases hlt' : i < c
    · have hbf := belowF (byK S1 (ks.getD k default).o i).1 (ks.getD k default).o hbi.1 (by unfold intOk; omega)
      generalize bS (byK S1 (ks.getD k default).o i).1 (ks.getD k default).o = S2 at hb1 hbf
      generalize bX (byK S1 (ks.getD k default).o i).1 (ks.getD k default).o = x at hb1 hbf
      have hlen : (byK S1 (ks.getD k default).o i).2.length ≤ 1099511627775 := by omega
      simp -dsimp -implicitDefEqProofs (disch := first | omega | (simp only [lenr]; done) | (simp only [lenr]; omega)) only [↓amPre, amAll, ↓reduceIte, reduceCtorEq, Nat.reduceEqDiff, Nat.reduceBEq, Nat.reduceAdd, Nat.reduceLeDiff, Nat.reduceSub, Nat.reduceMul, Int.reduceToNat, List.size_toArray, tyF, MM, bu0, ipure, kpure, tpure, sspure, kset, tset, ksnoc, tsnoc, Kind.av, Twist.sl, Twist.tr, Invar.av, f8, f7, f6, f1, f5, f0, m48, m7, m0, m1, hc, hbi.2]
      refine piv_go 10 8 0 (by decide +kernel) ?_
      simp -dsimp -implicitDefEqProofs (disch := first | omega | (simp only [lenr]; done) | (simp only [lenr]; omega)) only [↓amPre, amAll, ↓reduceIte, reduceCtorEq, Nat.reduceEqDiff, Nat.reduceBEq, Nat.reduceAdd, Nat.reduceLeDiff, Nat.reduceSub, Nat.reduceMul, Int.reduceToNat, List.size_toArray, tyF, MM, bu0, ipure, kpure, tpure, sspure, kset, tset, ksnoc, tsnoc, Kind.av, Twist.sl, Twist.tr, Invar.av, f8, f7, f6, f1, f5, f0, m48, m7, m0, m1, hc, hbi.2]
      refine pvX_of (hbf.1) ?_
      simp -dsimp -implicitDefEqProofs (disch := first | omega | (simp only [lenr]; done) | (simp only [lenr]; omega)) only [↓amPre, amAll, ↓reduceIte, reduceCtorEq, Nat.reduceEqDiff, Nat.reduceBEq, Nat.reduceAdd, Nat.reduceLeDiff, Nat.reduceSub, Nat.reduceMul, Int.reduceToNat, List.size_toArray, tyF, MM, bu0, ipure, kpure, tpure, sspure, kset, tset, ksnoc, tsnoc, Kind.av, Twist.sl, Twist.tr, Invar.av, f8, f7, f6, f1, f5, f0, m48, m7, m0, m1, hc, hbi.2, hb1]
      repeat' (first | omega | rfl | exact i64c (by omega) | exact vic (by omega) | apply And.intro)
    · have hie : i = c := by omega
      subst hie
      simp -dsimp -implicitDefEqProofs (disch := first | omega | (simp only [lenr]; done) | (simp only [lenr]; omega)) only [↓amPre, amAll, ↓reduceIte, reduceCtorEq, Nat.reduceEqDiff, Nat.reduceBEq, Nat.reduceAdd, Nat.reduceLeDiff, Nat.reduceSub, Nat.reduceMul, Int.reduceToNat, List.size_toArray, tyF, MM, bu0, ipure, kpure, tpure, sspure, kset, tset, ksnoc, tsnoc, Kind.av, Twist.sl, Twist.tr, Invar.av, f8, f7, f6, f1, f5, f0, m48, m7, m0, m1, hc, ho.2, hds]
      repeat' (first | omega | rfl | exact i64c (by omega) | exact vic (by omega) | apply And.intro)
  · have hke : k = ks.length := by omega
    subst hke
    simp -dsimp -implicitDefEqProofs (disch := first | omega | (simp only [lenr]; done) | (simp only [lenr]; omega)) only [↓amPre, amAll, ↓reduceIte, reduceCtorEq, Nat.reduceEqDiff, Nat.reduceBEq, Nat.reduceAdd, Nat.reduceLeDiff, Nat.reduceSub, Nat.reduceMul, Int.reduceToNat, List.size_toArray, tyF, MM, bu0, ipure, kpure, tpure, sspure, kset, tset, ksnoc, tsnoc, Kind.av, Twist.sl, Twist.tr, Invar.av, f6, f1, f5, f0, m48, m0, m1, ho.2]
end Draws
end Go.AM

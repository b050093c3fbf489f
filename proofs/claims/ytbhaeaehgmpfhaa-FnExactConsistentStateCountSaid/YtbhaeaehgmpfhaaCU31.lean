/-
  CONTRACTS of functions of the program, and what they compute, by content.
-/
import Derived.Test.YtbhaeaehgmpfhaaCU30
set_option linter.unusedVariables false
set_option linter.unusedSimpArgs false
set_option maxRecDepth 8000
namespace Go.AM
open Go.Proofs
def dstK (ks : List Kind) (set : Int) : Nat → Bool
  | 0 => true
  | k + 1 => dstK ks set k && (!bitK set k || decide (1 < (ks.getD k default).c))
/-- have two sets of kinds an even number of kinds in common? -/
def evn (a b : Int) : Bool := bitsI .and .i64 (bitsI .xor .i64 (bitsI .xor .i64 (bitsI .and .i64 a b) ((bitsI .and .i64 a b).fdiv (2 ^ (min 1 64)))) ((bitsI .and .i64 a b).fdiv (2 ^ (min 2 64)))) 1 == 0
def kpO (set : Int) (i : Invar) : Bool := i.k != 2 || evn set i.s
def kpL (set : Int) (L : List Invar) : Bool := L.all (kpO set)
theorem kpL_take (set : Int) (L : List Invar) (k : Nat) (h : k < L.length) : kpL set (L.take (k + 1)) = (kpL set (L.take k) && kpO set (L.getD k default)) := by
  unfold kpL; rw [take_succ_eq L k default h, List.all_append]; simp
def allP (ks : List Kind) : Nat → Nat
  | 0 => 0
  | j + 1 => allP ks j + if dstK ks (j : Nat) ks.length = true then 1 else 0
def goodP (ks : List Kind) (L : List Invar) : Nat → Nat
  | 0 => 0
  | j + 1 => goodP ks L j + if (dstK ks (j : Nat) ks.length && kpL (j : Nat) L) = true then 1 else 0
theorem allP_le (ks : List Kind) : ∀ j, allP ks j ≤ j
  | 0 => by simp [allP]
  | j + 1 => by have := allP_le ks j; rw [allP]; split <;> omega
theorem goodP_le (ks : List Kind) (L : List Invar) : ∀ j, goodP ks L j ≤ j
  | 0 => by simp [goodP]
  | j + 1 => by have := goodP_le ks L j; rw [goodP]; split <;> omega
theorem bit01 : ∀ s : Nat, s < 8 → ∀ k : Nat, k < 3 → bitsI .and .i64 ((s : Int).fdiv (2 ^ (min k 64))) 1 = 0 ∨ bitsI .and .i64 ((s : Int).fdiv (2 ^ (min k 64))) 1 = 1 := by decide +kernel
theorem bit_zero (s : Nat) (hs : s < 8) (k : Nat) (hk : k < 3) : (bitsI .and .i64 ((s : Int).fdiv (2 ^ (min k 64))) 1 == 0) = !bitK s k := by
  unfold bitK
  rcases bit01 s hs k hk with h | h <;> rw [h] <;> rfl
theorem parityShare (ks : List Kind) (L : List Invar) (hk : ks.length ≤ 3) (hl : L.length ≤ 10) : SpecAt Try.prog 130 [ksl ks, vsl L] (.tup [.i64 (goodP ks L (2 ^ ks.length)), .i64 (allP ks (2 ^ ks.length))]) := by
  have hs := shl_small ks.length hk
  have hb : IntKind.i64.bits = 64 := rfl
  have hpw := pow_small hk
  refine spec_of_awp (M := MM) (np := 2) (fz := true) mixed Try.func130 rfl rfl (by decide) rfl (Nat.le_refl _) (by decide +kernel) (.inr ⟨rfl, rfl⟩) trivial ?_
  simp -dsimp -implicitDefEqProofs (disch := first | omega | (simp only [lenr]; done) | (simp only [lenr]; omega)) only [↓amPre, amPost0, amPost1, amPost2, amPost3, ↓reduceIte, reduceCtorEq, Nat.reduceEqDiff, Nat.reduceBEq, Nat.reduceAdd, Nat.reduceLeDiff, Nat.reduceSub, Nat.reduceMul, Int.reduceToNat, List.size_toArray, tyF, MM, bu0, ipure, kpure, tpure, sspure, kset, tset, ksnoc, tsnoc, Kind.av, Twist.sl, Twist.tr, Invar.av, stsize, stget, sttl, stapp, stext, tsspure, Model.sl, Model.tr, vset, vsnoc, vpure, hs, hb]
  refine awp_loop (fun s st => s ≤ (2 ^ ks.length) ∧ st.fr 19 = .i64 s ∧ st.fr 18 = .i64 (2 ^ ks.length : Nat) ∧ st.fr 0 = ksl ks ∧ st.fr 1 = vsl L ∧ st.fr 6 = .i64 (goodP ks L s) ∧ st.fr 7 = .i64 (allP ks s)) ((2 ^ ks.length)) ?_ ?_
  · simp -dsimp -implicitDefEqProofs (disch := first | omega | (simp only [lenr]; done) | (simp only [lenr]; omega)) only [↓amPre, amPost0, amPost1, amPost2, amPost3, ↓reduceIte, reduceCtorEq, Nat.reduceEqDiff, Nat.reduceBEq, Nat.reduceAdd, Nat.reduceLeDiff, Nat.reduceSub, Nat.reduceMul, Int.reduceToNat, List.size_toArray, tyF, MM, bu0, ipure, kpure, tpure, sspure, kset, tset, ksnoc, tsnoc, Kind.av, Twist.sl, Twist.tr, Invar.av, stsize, stget, sttl, stapp, stext, tsspure, Model.sl, Model.tr, vset, vsnoc, vpure]
    simp [goodP, allP]
  rintro s st _ ⟨hs, f19, f18, f0, f1, f6, f7⟩
  have hg := goodP_le ks L s
  have ha := allP_le ks s
  have hg1 : goodP ks L (s + 1) = _ := rfl
  conv at hg1 => rhs; rw [goodP]
  have ha1 : allP ks (s + 1) = _ := rfl
  conv at ha1 => rhs; rw [allP]
  by_cases hlt : s < 2 ^ ks.length
  · simp -dsimp -implicitDefEqProofs (disch := first | omega | (simp only [lenr]; done) | (simp only [lenr]; omega)) only [↓amPre, amPost0, amPost1, amPost2, amPost3, ↓reduceIte, reduceCtorEq, Nat.reduceEqDiff, Nat.reduceBEq, Nat.reduceAdd, Nat.reduceLeDiff, Nat.reduceSub, Nat.reduceMul, Int.reduceToNat, List.size_toArray, tyF, MM, bu0, ipure, kpure, tpure, sspure, kset, tset, ksnoc, tsnoc, Kind.av, Twist.sl, Twist.tr, Invar.av, stsize, stget, sttl, stapp, stext, tsspure, Model.sl, Model.tr, vset, vsnoc, vpure, f19, f18, f0, f1, f6, f7]
    refine awp_loop (fun k st => k ≤ ks.length ∧ st.fr 24 = .i64 k ∧ st.fr 23 = .i64 ks.length ∧ st.fr 22 = ksl ks ∧ st.fr 8 = .i64 s ∧ st.fr 9 = .bl (dstK ks s k) ∧ st.fr 10 = .bl true ∧ st.fr 19 = .i64 s ∧ st.fr 18 = .i64 (2 ^ ks.length : Nat) ∧ st.fr 0 = ksl ks ∧ st.fr 1 = vsl L ∧ st.fr 6 = .i64 (goodP ks L s) ∧ st.fr 7 = .i64 (allP ks s)) (ks.length) ?_ ?_
    · simp -dsimp -implicitDefEqProofs (disch := first | omega | (simp only [lenr]; done) | (simp only [lenr]; omega)) only [↓amPre, amPost0, amPost1, amPost2, amPost3, ↓reduceIte, reduceCtorEq, Nat.reduceEqDiff, Nat.reduceBEq, Nat.reduceAdd, Nat.reduceLeDiff, Nat.reduceSub, Nat.reduceMul, Int.reduceToNat, List.size_toArray, tyF, MM, bu0, ipure, kpure, tpure, sspure, kset, tset, ksnoc, tsnoc, Kind.av, Twist.sl, Twist.tr, Invar.av, stsize, stget, sttl, stapp, stext, tsspure, Model.sl, Model.tr, vset, vsnoc, vpure, f19, f18, f0, f1, f6, f7]
      simp [dstK]
    rintro k st _ ⟨hk, f24, f23, f22, f8, f9, f10, f19, f18, f0, f1, f6, f7⟩
    by_cases hkt : k < ks.length
    · have hbz := bit_zero s (by omega) k (by omega)
      have hd1 : dstK ks s (k + 1) = (dstK ks s k && (!bitK s k || decide (1 < (ks.getD k default).c))) := rfl
      cases d : dstK ks s k with
      | false =>
        rw [d, Bool.false_and] at hd1
        simp -dsimp -implicitDefEqProofs (disch := first | omega | (simp only [lenr]; done) | (simp only [lenr]; omega)) only [↓amPre, amPost0, amPost1, amPost2, amPost3, ↓reduceIte, reduceCtorEq, Nat.reduceEqDiff, Nat.reduceBEq, Nat.reduceAdd, Nat.reduceLeDiff, Nat.reduceSub, Nat.reduceMul, Int.reduceToNat, List.size_toArray, tyF, MM, bu0, ipure, kpure, tpure, sspure, kset, tset, ksnoc, tsnoc, Kind.av, Twist.sl, Twist.tr, Invar.av, stsize, stget, sttl, stapp, stext, tsspure, Model.sl, Model.tr, vset, vsnoc, vpure, f24, f23, f22, f8, f9, f10, f19, f18, f0, f1, f6, f7, d, hd1]
        repeat' (first | omega | rfl | exact i64c (by omega) | exact vic (by omega) | apply And.intro)
      | true =>
        rw [d, Bool.true_and] at hd1
        cases b : bitK s k with
        | false =>
          rw [b] at hbz hd1
          simp -dsimp -implicitDefEqProofs (disch := first | omega | (simp only [lenr]; done) | (simp only [lenr]; omega)) only [↓amPre, amPost0, amPost1, amPost2, amPost3, ↓reduceIte, reduceCtorEq, Nat.reduceEqDiff, Nat.reduceBEq, Nat.reduceAdd, Nat.reduceLeDiff, Nat.reduceSub, Nat.reduceMul, Int.reduceToNat, List.size_toArray, tyF, MM, bu0, ipure, kpure, tpure, sspure, kset, tset, ksnoc, tsnoc, Kind.av, Twist.sl, Twist.tr, Invar.av, stsize, stget, sttl, stapp, stext, tsspure, Model.sl, Model.tr, vset, vsnoc, vpure, f24, f23, f22, f8, f9, f10, f19, f18, f0, f1, f6, f7, d, hb, hbz, hd1]
          repeat' (first | omega | rfl | exact i64c (by omega) | exact vic (by omega) | apply And.intro)
        | true =>
          rw [b] at hbz hd1
          simp -dsimp -implicitDefEqProofs (disch := first | omega | (simp only [lenr]; done) | (simp only [lenr]; omega)) only [↓amPre, amPost0, amPost1, amPost2, amPost3, ↓reduceIte, reduceCtorEq, Nat.reduceEqDiff, Nat.reduceBEq, Nat.reduceAdd, Nat.reduceLeDiff, Nat.reduceSub, Nat.reduceMul, Int.reduceToNat, List.size_toArray, tyF, MM, bu0, ipure, kpure, tpure, sspure, kset, tset, ksnoc, tsnoc, Kind.av, Twist.sl, Twist.tr, Invar.av, stsize, stget, sttl, stapp, stext, tsspure, Model.sl, Model.tr, vset, vsnoc, vpure, f24, f23, f22, f8, f9, f10, f19, f18, f0, f1, f6, f7, d, hb, hbz, hd1]
          repeat' (first | omega | rfl | exact i64c (by omega) | exact vic (by omega) | apply And.intro)
    have hke : k = ks.length := by omega
    subst hke
    generalize hD : dstK ks s ks.length = D at f9 hg1 ha1
    simp -dsimp -implicitDefEqProofs (disch := first | omega | (simp only [lenr]; done) | (simp only [lenr]; omega)) only [↓amPre, amPost0, amPost1, amPost2, amPost3, ↓reduceIte, reduceCtorEq, Nat.reduceEqDiff, Nat.reduceBEq, Nat.reduceAdd, Nat.reduceLeDiff, Nat.reduceSub, Nat.reduceMul, Int.reduceToNat, List.size_toArray, tyF, MM, bu0, ipure, kpure, tpure, sspure, kset, tset, ksnoc, tsnoc, Kind.av, Twist.sl, Twist.tr, Invar.av, stsize, stget, sttl, stapp, stext, tsspure, Model.sl, Model.tr, vset, vsnoc, vpure, f24, f23, f22, f8, f9, f10, f19, f18, f0, f1, f6, f7]
    refine awp_loop (fun i st => i ≤ L.length ∧ st.fr 45 = .i64 i ∧ st.fr 44 = .i64 L.length ∧ st.fr 43 = vsl L ∧ st.fr 8 = .i64 s ∧ st.fr 9 = .bl D ∧ st.fr 10 = .bl (kpL s (L.take i)) ∧ st.fr 19 = .i64 s ∧ st.fr 18 = .i64 (2 ^ ks.length : Nat) ∧ st.fr 0 = ksl ks ∧ st.fr 1 = vsl L ∧ st.fr 6 = .i64 (goodP ks L s) ∧ st.fr 7 = .i64 (allP ks s)) (L.length) ?_ ?_
    · simp -dsimp -implicitDefEqProofs (disch := first | omega | (simp only [lenr]; done) | (simp only [lenr]; omega)) only [↓amPre, amPost0, amPost1, amPost2, amPost3, ↓reduceIte, reduceCtorEq, Nat.reduceEqDiff, Nat.reduceBEq, Nat.reduceAdd, Nat.reduceLeDiff, Nat.reduceSub, Nat.reduceMul, Int.reduceToNat, List.size_toArray, tyF, MM, bu0, ipure, kpure, tpure, sspure, kset, tset, ksnoc, tsnoc, Kind.av, Twist.sl, Twist.tr, Invar.av, stsize, stget, sttl, stapp, stext, tsspure, Model.sl, Model.tr, vset, vsnoc, vpure, f24, f23, f22, f8, f9, f10, f19, f18, f0, f1, f6, f7]
      simp [kpL]
    rintro i st _ ⟨hi, f45, f44, f43, f8, f9, f10, f19, f18, f0, f1, f6, f7⟩
    by_cases hit : i < L.length
    · have hkt := kpL_take s L i hit
      by_cases c : (L.getD i default).k = 2
      case neg =>
        have e : kpO s (L.getD i default) = true := by unfold kpO; rw [ne_true c]; rfl
        rw [e, Bool.and_true] at hkt
        simp -dsimp -implicitDefEqProofs (disch := first | omega | (simp only [lenr]; done) | (simp only [lenr]; omega)) only [↓amPre, amPost0, amPost1, amPost2, amPost3, ↓reduceIte, reduceCtorEq, Nat.reduceEqDiff, Nat.reduceBEq, Nat.reduceAdd, Nat.reduceLeDiff, Nat.reduceSub, Nat.reduceMul, Int.reduceToNat, List.size_toArray, tyF, MM, bu0, ipure, kpure, tpure, sspure, kset, tset, ksnoc, tsnoc, Kind.av, Twist.sl, Twist.tr, Invar.av, stsize, stget, sttl, stapp, stext, tsspure, Model.sl, Model.tr, vset, vsnoc, vpure, f45, f44, f43, f8, f9, f10, f19, f18, f0, f1, f6, f7, ne_true c, hkt]
        repeat' (first | omega | rfl | exact i64c (by omega) | exact vic (by omega) | apply And.intro)
      have e : kpO s (L.getD i default) = evn s (L.getD i default).s := by unfold kpO; rw [ne_false c]; rfl
      rw [e] at hkt
      cases d : kpL s (L.take i) with
      | false =>
        rw [d, Bool.false_and] at hkt
        simp -dsimp -implicitDefEqProofs (disch := first | omega | (simp only [lenr]; done) | (simp only [lenr]; omega)) only [↓amPre, amPost0, amPost1, amPost2, amPost3, ↓reduceIte, reduceCtorEq, Nat.reduceEqDiff, Nat.reduceBEq, Nat.reduceAdd, Nat.reduceLeDiff, Nat.reduceSub, Nat.reduceMul, Int.reduceToNat, List.size_toArray, tyF, MM, bu0, ipure, kpure, tpure, sspure, kset, tset, ksnoc, tsnoc, Kind.av, Twist.sl, Twist.tr, Invar.av, stsize, stget, sttl, stapp, stext, tsspure, Model.sl, Model.tr, vset, vsnoc, vpure, f45, f44, f43, f8, f9, f10, f19, f18, f0, f1, f6, f7, ne_false c, d, hb, hkt]
        repeat' (first | omega | rfl | exact i64c (by omega) | exact vic (by omega) | apply And.intro)
      | true =>
        rw [d, Bool.true_and] at hkt
        simp -dsimp -implicitDefEqProofs (disch := first | omega | (simp only [lenr]; done) | (simp only [lenr]; omega)) only [↓amPre, amPost0, amPost1, amPost2, amPost3, ↓reduceIte, reduceCtorEq, Nat.reduceEqDiff, Nat.reduceBEq, Nat.reduceAdd, Nat.reduceLeDiff, Nat.reduceSub, Nat.reduceMul, Int.reduceToNat, List.size_toArray, tyF, MM, bu0, ipure, kpure, tpure, sspure, kset, tset, ksnoc, tsnoc, Kind.av, Twist.sl, Twist.tr, Invar.av, stsize, stget, sttl, stapp, stext, tsspure, Model.sl, Model.tr, vset, vsnoc, vpure, f45, f44, f43, f8, f9, f10, f19, f18, f0, f1, f6, f7, ne_false c, d, hb, hkt]
        all_goals unfold evn
        repeat' (first | omega | rfl | exact i64c (by omega) | exact vic (by omega) | apply And.intro)
    have hie : i = L.length := by omega
    subst hie
    rw [List.take_length] at f10
    generalize hK : kpL s L = K at f10 hg1
    cases D with
    | false =>
      simp at hg1 ha1
      simp -dsimp -implicitDefEqProofs (disch := first | omega | (simp only [lenr]; done) | (simp only [lenr]; omega)) only [↓amPre, amPost0, amPost1, amPost2, amPost3, ↓reduceIte, reduceCtorEq, Nat.reduceEqDiff, Nat.reduceBEq, Nat.reduceAdd, Nat.reduceLeDiff, Nat.reduceSub, Nat.reduceMul, Int.reduceToNat, List.size_toArray, tyF, MM, bu0, ipure, kpure, tpure, sspure, kset, tset, ksnoc, tsnoc, Kind.av, Twist.sl, Twist.tr, Invar.av, stsize, stget, sttl, stapp, stext, tsspure, Model.sl, Model.tr, vset, vsnoc, vpure, f45, f44, f43, f8, f9, f10, f19, f18, f0, f1, f6, f7, hg1, ha1]
      repeat' (first | omega | rfl | exact i64c (by omega) | exact vic (by omega) | apply And.intro)
    | true =>
      cases K with
      | false =>
        simp at hg1 ha1
        simp -dsimp -implicitDefEqProofs (disch := first | omega | (simp only [lenr]; done) | (simp only [lenr]; omega)) only [↓amPre, amPost0, amPost1, amPost2, amPost3, ↓reduceIte, reduceCtorEq, Nat.reduceEqDiff, Nat.reduceBEq, Nat.reduceAdd, Nat.reduceLeDiff, Nat.reduceSub, Nat.reduceMul, Int.reduceToNat, List.size_toArray, tyF, MM, bu0, ipure, kpure, tpure, sspure, kset, tset, ksnoc, tsnoc, Kind.av, Twist.sl, Twist.tr, Invar.av, stsize, stget, sttl, stapp, stext, tsspure, Model.sl, Model.tr, vset, vsnoc, vpure, f45, f44, f43, f8, f9, f10, f19, f18, f0, f1, f6, f7, hg1, ha1]
        repeat' (first | omega | rfl | exact i64c (by omega) | exact vic (by omega) | apply And.intro)
      | true =>
        simp at hg1 ha1
        simp -dsimp -implicitDefEqProofs (disch := first | omega | (simp only [lenr]; done) | (simp only [lenr]; omega)) only [↓amPre, amPost0, amPost1, amPost2, amPost3, ↓reduceIte, reduceCtorEq, Nat.reduceEqDiff, Nat.reduceBEq, Nat.reduceAdd, Nat.reduceLeDiff, Nat.reduceSub, Nat.reduceMul, Int.reduceToNat, List.size_toArray, tyF, MM, bu0, ipure, kpure, tpure, sspure, kset, tset, ksnoc, tsnoc, Kind.av, Twist.sl, Twist.tr, Invar.av, stsize, stget, sttl, stapp, stext, tsspure, Model.sl, Model.tr, vset, vsnoc, vpure, f45, f44, f43, f8, f9, f10, f19, f18, f0, f1, f6, f7, hg1, ha1]
        repeat' (first | omega | rfl | exact i64c (by omega) | exact vic (by omega) | apply And.intro)
  · have hse : s = 2 ^ ks.length := by omega
    rw [← hse] at *
    simp -dsimp -implicitDefEqProofs (disch := first | omega | (simp only [lenr]; done) | (simp only [lenr]; omega)) only [↓amPre, amPost0, amPost1, amPost2, amPost3, ↓reduceIte, reduceCtorEq, Nat.reduceEqDiff, Nat.reduceBEq, Nat.reduceAdd, Nat.reduceLeDiff, Nat.reduceSub, Nat.reduceMul, Int.reduceToNat, List.size_toArray, tyF, MM, bu0, ipure, kpure, tpure, sspure, kset, tset, ksnoc, tsnoc, Kind.av, Twist.sl, Twist.tr, Invar.av, stsize, stget, sttl, stapp, stext, tsspure, Model.sl, Model.tr, vset, vsnoc, vpure, f19, f18, f0, f1, f6, f7]
end Go.AM

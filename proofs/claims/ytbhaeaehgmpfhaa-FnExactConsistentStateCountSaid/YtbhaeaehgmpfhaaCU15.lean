/-
  CONTRACTS of functions of the program, and what they compute, by content.
-/
import Derived.Test.YtbhaeaehgmpfhaaCU14
set_option linter.unusedVariables false
set_option linter.unusedSimpArgs false
set_option maxRecDepth 8000
namespace Go.AM
open Go.Proofs
/-- is kind k among a set of kinds? -/
def bitK (set : Int) (k : Nat) : Bool := bitsI .and .i64 (set.fdiv (2 ^ (min k 64))) 1 == 1
def oddS (s : List Twist) (set : Int) : Nat → Nat
  | 0 => 0
  | k + 1 => oddS s set k + if bitK set k = true ∧ sgnI (s.getD k default).to < 0 then 1 else 0
theorem oddS_le (s : List Twist) (set : Int) : ∀ k, oddS s set k ≤ k
  | 0 => Nat.le_refl _
  | k + 1 => by have := oddS_le s set k; rw [oddS]; split <;> omega
def parS (s : List Twist) (set : Int) : Int := ((oddS s set s.length % 2 : Nat) : Int)
theorem u64_small (k : Nat) (h : k ≤ 3) : IntKind.u64.wrap (k : Int) = k := by
  match k, h with
  | 0, _ => rfl
  | 1, _ => rfl
  | 2, _ => rfl
  | 3, _ => rfl
theorem shl_small (k : Nat) (h : k ≤ 3) : IntKind.i64.wrap (1 * 2 ^ (min k 64)) = ((2 ^ k : Nat) : Int) := by
  match k, h with
  | 0, _ => rfl
  | 1, _ => rfl
  | 2, _ => rfl
  | 3, _ => rfl
theorem sl22Parity (s : List Twist) (set : Int) (hs : s.length ≤ 3) (hp : ∀ t ∈ s, isPerm t.to) : SpecAt Try.prog 212 [tsl s, .i64 set] (.i64 (parS s set)) := by
  have hb : IntKind.i64.bits = 64 := rfl
  refine spec_of_awp (M := MM) (np := 2) (fz := true) mixed Try.func212 rfl rfl (by decide) rfl (Nat.le_refl _) (by decide +kernel) (.inr ⟨rfl, rfl⟩) trivial ?_
  simp -dsimp -implicitDefEqProofs (disch := first | omega | (simp only [lenr]; done) | (simp only [lenr]; omega)) only [↓amPre, amPost0, amPost1, amPost2, amPost3, ↓reduceIte, reduceCtorEq, Nat.reduceEqDiff, Nat.reduceBEq, Nat.reduceAdd, Nat.reduceLeDiff, Nat.reduceSub, Nat.reduceMul, Int.reduceToNat, List.size_toArray, tyF, MM, bu0, ipure, kpure, tpure, sspure, kset, tset, ksnoc, tsnoc, Kind.av, Twist.sl, Twist.tr, Invar.av, stsize, stget, sttl, stapp, stext, tsspure, Model.sl, Model.tr]
  refine awp_loop (fun k st => k ≤ s.length ∧ st.fr 6 = .i64 k ∧ st.fr 5 = .i64 (oddS s set k) ∧ st.fr 0 = tsl s ∧ st.fr 1 = .i64 set) (s.length) ?_ ?_
  · simp -dsimp -implicitDefEqProofs (disch := first | omega | (simp only [lenr]; done) | (simp only [lenr]; omega)) only [↓amPre, amPost0, amPost1, amPost2, amPost3, ↓reduceIte, reduceCtorEq, Nat.reduceEqDiff, Nat.reduceBEq, Nat.reduceAdd, Nat.reduceLeDiff, Nat.reduceSub, Nat.reduceMul, Int.reduceToNat, List.size_toArray, tyF, MM, bu0, ipure, kpure, tpure, sspure, kset, tset, ksnoc, tsnoc, Kind.av, Twist.sl, Twist.tr, Invar.av, stsize, stget, sttl, stapp, stext, tsspure, Model.sl, Model.tr]
    simp [oddS]
  rintro k st _ ⟨hk, f6, f5, f0, f1⟩
  have hol := oddS_le s set k
  by_cases hlt : k < s.length
  · have hu := u64_small k (by omega)
    have hpk := hp _ (mem_getD s k default hlt)
    have hst : oddS s set (k + 1) = oddS s set k + if bitK set k = true ∧ sgnI (s.getD k default).to < 0 then 1 else 0 := rfl
    cases hbk : bitK set k with
    | true =>
      have hbk' := hbk
      unfold bitK at hbk'
      simp -dsimp -implicitDefEqProofs (disch := first | omega | (simp only [lenr]; done) | (simp only [lenr]; omega)) only [↓amPre, amPost0, amPost1, amPost2, amPost3, ↓reduceIte, reduceCtorEq, Nat.reduceEqDiff, Nat.reduceBEq, Nat.reduceAdd, Nat.reduceLeDiff, Nat.reduceSub, Nat.reduceMul, Int.reduceToNat, List.size_toArray, tyF, MM, bu0, ipure, kpure, tpure, sspure, kset, tset, ksnoc, tsnoc, Kind.av, Twist.sl, Twist.tr, Invar.av, stsize, stget, sttl, stapp, stext, tsspure, Model.sl, Model.tr, f6, f5, f0, f1, hb, hu, hbk']
      refine callP_of (sSign _ hpk) ?_
      by_cases hn : sgnI (s.getD k default).to < 0
      · rw [hbk, if_pos ⟨rfl, hn⟩] at hst
        simp -dsimp -implicitDefEqProofs (disch := first | omega | (simp only [lenr]; done) | (simp only [lenr]; omega)) only [↓amPre, amPost0, amPost1, amPost2, amPost3, ↓reduceIte, reduceCtorEq, Nat.reduceEqDiff, Nat.reduceBEq, Nat.reduceAdd, Nat.reduceLeDiff, Nat.reduceSub, Nat.reduceMul, Int.reduceToNat, List.size_toArray, tyF, MM, bu0, ipure, kpure, tpure, sspure, kset, tset, ksnoc, tsnoc, Kind.av, Twist.sl, Twist.tr, Invar.av, stsize, stget, sttl, stapp, stext, tsspure, Model.sl, Model.tr, f6, f5, f0, f1, hb, hu, hbk', lt_true hn, hst]
        repeat' (first | omega | rfl | exact i64c (by omega) | exact vic (by omega) | apply And.intro)
      · rw [hbk, if_neg (fun q => hn q.2)] at hst
        simp -dsimp -implicitDefEqProofs (disch := first | omega | (simp only [lenr]; done) | (simp only [lenr]; omega)) only [↓amPre, amPost0, amPost1, amPost2, amPost3, ↓reduceIte, reduceCtorEq, Nat.reduceEqDiff, Nat.reduceBEq, Nat.reduceAdd, Nat.reduceLeDiff, Nat.reduceSub, Nat.reduceMul, Int.reduceToNat, List.size_toArray, tyF, MM, bu0, ipure, kpure, tpure, sspure, kset, tset, ksnoc, tsnoc, Kind.av, Twist.sl, Twist.tr, Invar.av, stsize, stget, sttl, stapp, stext, tsspure, Model.sl, Model.tr, f6, f5, f0, f1, hb, hu, hbk', lt_false (Int.not_lt.1 hn), hst]
        repeat' (first | omega | rfl | exact i64c (by omega) | exact vic (by omega) | apply And.intro)
    | false =>
      have hbk' := hbk
      unfold bitK at hbk'
      rw [hbk, if_neg (fun q => by cases q.1)] at hst
      simp -dsimp -implicitDefEqProofs (disch := first | omega | (simp only [lenr]; done) | (simp only [lenr]; omega)) only [↓amPre, amPost0, amPost1, amPost2, amPost3, ↓reduceIte, reduceCtorEq, Nat.reduceEqDiff, Nat.reduceBEq, Nat.reduceAdd, Nat.reduceLeDiff, Nat.reduceSub, Nat.reduceMul, Int.reduceToNat, List.size_toArray, tyF, MM, bu0, ipure, kpure, tpure, sspure, kset, tset, ksnoc, tsnoc, Kind.av, Twist.sl, Twist.tr, Invar.av, stsize, stget, sttl, stapp, stext, tsspure, Model.sl, Model.tr, f6, f5, f0, f1, hb, hu, hbk', hst]
      repeat' (first | omega | rfl | exact i64c (by omega) | exact vic (by omega) | apply And.intro)
  · have hke : k = s.length := by omega
    subst hke
    have hmod : ((oddS s set s.length : Nat) : Int).tmod 2 = ((oddS s set s.length % 2 : Nat) : Int) := by
      rw [Int.tmod_eq_emod_of_nonneg (by omega)]; omega
    simp -dsimp -implicitDefEqProofs (disch := first | omega | (simp only [lenr]; done) | (simp only [lenr]; omega)) only [↓amPre, amPost0, amPost1, amPost2, amPost3, ↓reduceIte, reduceCtorEq, Nat.reduceEqDiff, Nat.reduceBEq, Nat.reduceAdd, Nat.reduceLeDiff, Nat.reduceSub, Nat.reduceMul, Int.reduceToNat, List.size_toArray, tyF, MM, bu0, ipure, kpure, tpure, sspure, kset, tset, ksnoc, tsnoc, Kind.av, Twist.sl, Twist.tr, Invar.av, stsize, stget, sttl, stapp, stext, tsspure, Model.sl, Model.tr, f6, f5, f0, f1, hmod, parS]
theorem istateParity (s : List Twist) (set : Int) (hs : s.length ≤ 3) (hp : ∀ t ∈ s, isPerm t.to) : SpecAt Try.prog 229 [tsl s, .i64 set] (.i64 (parS s set)) := by
  have hb : IntKind.i64.bits = 64 := rfl
  have x0 : bitsI .xor .i64 0 1 = 1 := rfl
  have x1 : bitsI .xor .i64 1 1 = 0 := rfl
  refine spec_of_awp (M := MM) (np := 2) (fz := true) mixed Try.func229 rfl rfl (by decide) rfl (Nat.le_refl _) (by decide +kernel) (.inr ⟨rfl, rfl⟩) trivial ?_
  simp -dsimp -implicitDefEqProofs (disch := first | omega | (simp only [lenr]; done) | (simp only [lenr]; omega)) only [↓amPre, amPost0, amPost1, amPost2, amPost3, ↓reduceIte, reduceCtorEq, Nat.reduceEqDiff, Nat.reduceBEq, Nat.reduceAdd, Nat.reduceLeDiff, Nat.reduceSub, Nat.reduceMul, Int.reduceToNat, List.size_toArray, tyF, MM, bu0, ipure, kpure, tpure, sspure, kset, tset, ksnoc, tsnoc, Kind.av, Twist.sl, Twist.tr, Invar.av, stsize, stget, sttl, stapp, stext, tsspure, Model.sl, Model.tr]
  refine awp_loop (fun k st => k ≤ s.length ∧ st.fr 10 = .i64 k ∧ st.fr 9 = .i64 s.length ∧ st.fr 8 = tsl s ∧ st.fr 1 = .i64 set ∧ st.fr 5 = .i64 (oddS s set k % 2 : Nat)) (s.length) ?_ ?_
  · simp -dsimp -implicitDefEqProofs (disch := first | omega | (simp only [lenr]; done) | (simp only [lenr]; omega)) only [↓amPre, amPost0, amPost1, amPost2, amPost3, ↓reduceIte, reduceCtorEq, Nat.reduceEqDiff, Nat.reduceBEq, Nat.reduceAdd, Nat.reduceLeDiff, Nat.reduceSub, Nat.reduceMul, Int.reduceToNat, List.size_toArray, tyF, MM, bu0, ipure, kpure, tpure, sspure, kset, tset, ksnoc, tsnoc, Kind.av, Twist.sl, Twist.tr, Invar.av, stsize, stget, sttl, stapp, stext, tsspure, Model.sl, Model.tr]
    simp [oddS]
  rintro k st _ ⟨hk, f10, f9, f8, f1, f5⟩
  have hol := oddS_le s set k
  by_cases hlt : k < s.length
  · have hpk := hp _ (mem_getD s k default hlt)
    have hst : oddS s set (k + 1) = oddS s set k + if bitK set k = true ∧ sgnI (s.getD k default).to < 0 then 1 else 0 := rfl
    cases hbk : bitK set k with
    | true =>
      have hbk' := hbk
      unfold bitK at hbk'
      simp -dsimp -implicitDefEqProofs (disch := first | omega | (simp only [lenr]; done) | (simp only [lenr]; omega)) only [↓amPre, amPost0, amPost1, amPost2, amPost3, ↓reduceIte, reduceCtorEq, Nat.reduceEqDiff, Nat.reduceBEq, Nat.reduceAdd, Nat.reduceLeDiff, Nat.reduceSub, Nat.reduceMul, Int.reduceToNat, List.size_toArray, tyF, MM, bu0, ipure, kpure, tpure, sspure, kset, tset, ksnoc, tsnoc, Kind.av, Twist.sl, Twist.tr, Invar.av, stsize, stget, sttl, stapp, stext, tsspure, Model.sl, Model.tr, f10, f9, f8, f1, f5, hb, hbk']
      refine callP_of (isign _ hpk) ?_
      by_cases hn : sgnI (s.getD k default).to < 0
      · rw [hbk, if_pos ⟨rfl, hn⟩] at hst
        by_cases hpar : oddS s set k % 2 = 1
        · have e : oddS s set (k + 1) % 2 = 0 := by omega
          rw [hpar] at f5
          simp -dsimp -implicitDefEqProofs (disch := first | omega | (simp only [lenr]; done) | (simp only [lenr]; omega)) only [↓amPre, amPost0, amPost1, amPost2, amPost3, ↓reduceIte, reduceCtorEq, Nat.reduceEqDiff, Nat.reduceBEq, Nat.reduceAdd, Nat.reduceLeDiff, Nat.reduceSub, Nat.reduceMul, Int.reduceToNat, List.size_toArray, tyF, MM, bu0, ipure, kpure, tpure, sspure, kset, tset, ksnoc, tsnoc, Kind.av, Twist.sl, Twist.tr, Invar.av, stsize, stget, sttl, stapp, stext, tsspure, Model.sl, Model.tr, f10, f9, f8, f1, f5, hb, hbk', lt_true hn, e, x1]
          repeat' (first | omega | rfl | exact i64c (by omega) | exact vic (by omega) | apply And.intro)
        · have hp0 : oddS s set k % 2 = 0 := by omega
          have e : oddS s set (k + 1) % 2 = 1 := by omega
          rw [hp0] at f5
          simp -dsimp -implicitDefEqProofs (disch := first | omega | (simp only [lenr]; done) | (simp only [lenr]; omega)) only [↓amPre, amPost0, amPost1, amPost2, amPost3, ↓reduceIte, reduceCtorEq, Nat.reduceEqDiff, Nat.reduceBEq, Nat.reduceAdd, Nat.reduceLeDiff, Nat.reduceSub, Nat.reduceMul, Int.reduceToNat, List.size_toArray, tyF, MM, bu0, ipure, kpure, tpure, sspure, kset, tset, ksnoc, tsnoc, Kind.av, Twist.sl, Twist.tr, Invar.av, stsize, stget, sttl, stapp, stext, tsspure, Model.sl, Model.tr, f10, f9, f8, f1, f5, hb, hbk', lt_true hn, e, x0]
          repeat' (first | omega | rfl | exact i64c (by omega) | exact vic (by omega) | apply And.intro)
      · rw [hbk, if_neg (fun q => hn q.2)] at hst
        simp -dsimp -implicitDefEqProofs (disch := first | omega | (simp only [lenr]; done) | (simp only [lenr]; omega)) only [↓amPre, amPost0, amPost1, amPost2, amPost3, ↓reduceIte, reduceCtorEq, Nat.reduceEqDiff, Nat.reduceBEq, Nat.reduceAdd, Nat.reduceLeDiff, Nat.reduceSub, Nat.reduceMul, Int.reduceToNat, List.size_toArray, tyF, MM, bu0, ipure, kpure, tpure, sspure, kset, tset, ksnoc, tsnoc, Kind.av, Twist.sl, Twist.tr, Invar.av, stsize, stget, sttl, stapp, stext, tsspure, Model.sl, Model.tr, f10, f9, f8, f1, f5, hb, hbk', lt_false (Int.not_lt.1 hn), hst]
        repeat' (first | omega | rfl | exact i64c (by omega) | exact vic (by omega) | apply And.intro)
    | false =>
      have hbk' := hbk
      unfold bitK at hbk'
      rw [hbk, if_neg (fun q => by cases q.1)] at hst
      simp -dsimp -implicitDefEqProofs (disch := first | omega | (simp only [lenr]; done) | (simp only [lenr]; omega)) only [↓amPre, amPost0, amPost1, amPost2, amPost3, ↓reduceIte, reduceCtorEq, Nat.reduceEqDiff, Nat.reduceBEq, Nat.reduceAdd, Nat.reduceLeDiff, Nat.reduceSub, Nat.reduceMul, Int.reduceToNat, List.size_toArray, tyF, MM, bu0, ipure, kpure, tpure, sspure, kset, tset, ksnoc, tsnoc, Kind.av, Twist.sl, Twist.tr, Invar.av, stsize, stget, sttl, stapp, stext, tsspure, Model.sl, Model.tr, f10, f9, f8, f1, f5, hb, hbk', hst]
      repeat' (first | omega | rfl | exact i64c (by omega) | exact vic (by omega) | apply And.intro)
  · have hke : k = s.length := by omega
    subst hke
    simp -dsimp -implicitDefEqProofs (disch := first | omega | (simp only [lenr]; done) | (simp only [lenr]; omega)) only [↓amPre, amPost0, amPost1, amPost2, amPost3, ↓reduceIte, reduceCtorEq, Nat.reduceEqDiff, Nat.reduceBEq, Nat.reduceAdd, Nat.reduceLeDiff, Nat.reduceSub, Nat.reduceMul, Int.reduceToNat, List.size_toArray, tyF, MM, bu0, ipure, kpure, tpure, sspure, kset, tset, ksnoc, tsnoc, Kind.av, Twist.sl, Twist.tr, Invar.av, stsize, stget, sttl, stapp, stext, tsspure, Model.sl, Model.tr, f10, f9, f8, f1, f5, parS]
theorem sl22Sets (ks : List Kind) (h : kindsOk ks) : SpecAt Try.prog 122 [ksl ks] (.i64 (2 ^ ks.length : Nat)) := by
  have hu := u64_small ks.length h.1.2
  have hs := shl_small ks.length h.1.2
  have hb : IntKind.i64.bits = 64 := rfl
  refine spec_of_awp (M := MM) (np := 1) (fz := true) mixed Try.func122 rfl rfl (by decide) rfl (Nat.le_refl _) (by decide +kernel) (.inr ⟨rfl, rfl⟩) trivial ?_
  simp -dsimp -implicitDefEqProofs (disch := first | omega | (simp only [lenr]; done) | (simp only [lenr]; omega)) only [↓amPre, amPost0, amPost1, amPost2, amPost3, ↓reduceIte, reduceCtorEq, Nat.reduceEqDiff, Nat.reduceBEq, Nat.reduceAdd, Nat.reduceLeDiff, Nat.reduceSub, Nat.reduceMul, Int.reduceToNat, List.size_toArray, tyF, MM, bu0, ipure, kpure, tpure, sspure, kset, tset, ksnoc, tsnoc, Kind.av, Twist.sl, Twist.tr, Invar.av, stsize, stget, sttl, stapp, stext, tsspure, Model.sl, Model.tr, hu, hs, hb]
theorem pow_small {k : Nat} (h : k ≤ 3) : (2:Nat) ^ k ≤ 8 ∧ 1 ≤ (2:Nat) ^ k := ⟨Nat.pow_le_pow_right (n := 2) (by decide) h, Nat.pow_pos (by decide)⟩
theorem iisKindSet (ks : List Kind) (set : Int) (h : kindsOk ks) : SpecAt Try.prog 228 [ksl ks, .i64 set] (.bl (within set 1 (((2 ^ ks.length : Nat) : Int) - 1))) := by
  have hs := shl_small ks.length h.1.2
  have hb : IntKind.i64.bits = 64 := rfl
  have hpw := pow_small h.1.2
  refine spec_of_awp (M := MM) (np := 2) (fz := true) mixed Try.func228 rfl rfl (by decide) rfl (Nat.le_refl _) (by decide +kernel) (.inr ⟨rfl, rfl⟩) trivial ?_
  simp -dsimp -implicitDefEqProofs (disch := first | omega | (simp only [lenr]; done) | (simp only [lenr]; omega)) only [↓amPre, amPost0, amPost1, amPost2, amPost3, ↓reduceIte, reduceCtorEq, Nat.reduceEqDiff, Nat.reduceBEq, Nat.reduceAdd, Nat.reduceLeDiff, Nat.reduceSub, Nat.reduceMul, Int.reduceToNat, List.size_toArray, tyF, MM, bu0, ipure, kpure, tpure, sspure, kset, tset, ksnoc, tsnoc, Kind.av, Twist.sl, Twist.tr, Invar.av, stsize, stget, sttl, stapp, stext, tsspure, Model.sl, Model.tr, hs, hb]
  refine callP_of (iwithin _ _ _) ?_
  simp -dsimp -implicitDefEqProofs (disch := first | omega | (simp only [lenr]; done) | (simp only [lenr]; omega)) only [↓amPre, amPost0, amPost1, amPost2, amPost3, ↓reduceIte, reduceCtorEq, Nat.reduceEqDiff, Nat.reduceBEq, Nat.reduceAdd, Nat.reduceLeDiff, Nat.reduceSub, Nat.reduceMul, Int.reduceToNat, List.size_toArray, tyF, MM, bu0, ipure, kpure, tpure, sspure, kset, tset, ksnoc, tsnoc, Kind.av, Twist.sl, Twist.tr, Invar.av, stsize, stget, sttl, stapp, stext, tsspure, Model.sl, Model.tr]
def parR (ks : List Kind) (s : List Twist) (set : Int) : Int := if psOk ks s ∧ 1 ≤ set ∧ set ≤ ((2 ^ ks.length : Nat) : Int) - 1 then parS s set else -1
theorem ps_perms {ks : List Kind} {s : List Twist} (h : psOk ks s) : s.length ≤ 3 ∧ ∀ t ∈ s, isPerm t.to := by
  refine ⟨by have := h.2.1; have := h.1.1.2; omega, fun t ht => ?_⟩
  obtain ⟨i, hi, rfl⟩ := List.getElem_of_mem ht
  have := (h.2.2 i (by have := h.2.1; omega)).2.2.1
  rwa [getD_eq s i default hi] at this
theorem iStateParity (ks : List Kind) (s : List Twist) (set : Int) (h1 : ks.length ≤ 1099511627776) (ha : smallT s) (hset : intOk set) : SpecAt Try.prog 214 [ksl ks, tsl s, .i64 set] (.i64 (parR ks s set)) := by
  refine spec_of_awp (M := MM) (np := 3) (fz := true) mixed Try.func214 rfl rfl (by decide) rfl (Nat.le_refl _) (by decide +kernel) (.inr ⟨rfl, rfl⟩) trivial ?_
  simp -dsimp -implicitDefEqProofs (disch := first | omega | (simp only [lenr]; done) | (simp only [lenr]; omega)) only [↓amPre, amPost0, amPost1, amPost2, amPost3, ↓reduceIte, reduceCtorEq, Nat.reduceEqDiff, Nat.reduceBEq, Nat.reduceAdd, Nat.reduceLeDiff, Nat.reduceSub, Nat.reduceMul, Int.reduceToNat, List.size_toArray, tyF, MM, bu0, ipure, kpure, tpure, sspure, kset, tset, ksnoc, tsnoc, Kind.av, Twist.sl, Twist.tr, Invar.av, stsize, stget, sttl, stapp, stext, tsspure, Model.sl, Model.tr]
  refine callP_of (iIsPieceState ks s h1 ha.1 ha.2) ?_
  by_cases ps : psOk ks s
  case neg =>
    have hR : parR ks s set = -1 := if_neg fun h => ps h.1
    simp -dsimp -implicitDefEqProofs (disch := first | omega | (simp only [lenr]; done) | (simp only [lenr]; omega)) only [↓amPre, amPost0, amPost1, amPost2, amPost3, ↓reduceIte, reduceCtorEq, Nat.reduceEqDiff, Nat.reduceBEq, Nat.reduceAdd, Nat.reduceLeDiff, Nat.reduceSub, Nat.reduceMul, Int.reduceToNat, List.size_toArray, tyF, MM, bu0, ipure, kpure, tpure, sspure, kset, tset, ksnoc, tsnoc, Kind.av, Twist.sl, Twist.tr, Invar.av, stsize, stget, sttl, stapp, stext, tsspure, Model.sl, Model.tr, ps, hR]
  simp -dsimp -implicitDefEqProofs (disch := first | omega | (simp only [lenr]; done) | (simp only [lenr]; omega)) only [↓amPre, amPost0, amPost1, amPost2, amPost3, ↓reduceIte, reduceCtorEq, Nat.reduceEqDiff, Nat.reduceBEq, Nat.reduceAdd, Nat.reduceLeDiff, Nat.reduceSub, Nat.reduceMul, Int.reduceToNat, List.size_toArray, tyF, MM, bu0, ipure, kpure, tpure, sspure, kset, tset, ksnoc, tsnoc, Kind.av, Twist.sl, Twist.tr, Invar.av, stsize, stget, sttl, stapp, stext, tsspure, Model.sl, Model.tr, ps]
  refine callP_of (iisKindSet ks set ps.1) ?_
  by_cases c : 1 ≤ set ∧ set ≤ ((2 ^ ks.length : Nat) : Int) - 1
  · have hR : parR ks s set = _ := if_pos ⟨ps, c⟩
    have w := within_iff.2 c
    simp -dsimp -implicitDefEqProofs (disch := first | omega | (simp only [lenr]; done) | (simp only [lenr]; omega)) only [↓amPre, amPost0, amPost1, amPost2, amPost3, ↓reduceIte, reduceCtorEq, Nat.reduceEqDiff, Nat.reduceBEq, Nat.reduceAdd, Nat.reduceLeDiff, Nat.reduceSub, Nat.reduceMul, Int.reduceToNat, List.size_toArray, tyF, MM, bu0, ipure, kpure, tpure, sspure, kset, tset, ksnoc, tsnoc, Kind.av, Twist.sl, Twist.tr, Invar.av, stsize, stget, sttl, stapp, stext, tsspure, Model.sl, Model.tr, ps, w]
    refine callP_of (istateParity s set (ps_perms ps).1 (ps_perms ps).2) ?_
    simp -dsimp -implicitDefEqProofs (disch := first | omega | (simp only [lenr]; done) | (simp only [lenr]; omega)) only [↓amPre, amPost0, amPost1, amPost2, amPost3, ↓reduceIte, reduceCtorEq, Nat.reduceEqDiff, Nat.reduceBEq, Nat.reduceAdd, Nat.reduceLeDiff, Nat.reduceSub, Nat.reduceMul, Int.reduceToNat, List.size_toArray, tyF, MM, bu0, ipure, kpure, tpure, sspure, kset, tset, ksnoc, tsnoc, Kind.av, Twist.sl, Twist.tr, Invar.av, stsize, stget, sttl, stapp, stext, tsspure, Model.sl, Model.tr, hR]
  · have hR : parR ks s set = -1 := if_neg fun h => c h.2
    have w : within set 1 (((2 ^ ks.length : Nat) : Int) - 1) = false := within_not.2 c
    simp -dsimp -implicitDefEqProofs (disch := first | omega | (simp only [lenr]; done) | (simp only [lenr]; omega)) only [↓amPre, amPost0, amPost1, amPost2, amPost3, ↓reduceIte, reduceCtorEq, Nat.reduceEqDiff, Nat.reduceBEq, Nat.reduceAdd, Nat.reduceLeDiff, Nat.reduceSub, Nat.reduceMul, Int.reduceToNat, List.size_toArray, tyF, MM, bu0, ipure, kpure, tpure, sspure, kset, tset, ksnoc, tsnoc, Kind.av, Twist.sl, Twist.tr, Invar.av, stsize, stget, sttl, stapp, stext, tsspure, Model.sl, Model.tr, ps, w, hR]
theorem sStateParity (ks : List Kind) (s : List Twist) (set : Int) (h1 : ks.length ≤ 1099511627776) (ha : smallT s) (hset : intOk set) : SpecAt Try.prog 200 [ksl ks, tsl s, .i64 set] (.i64 (parR ks s set)) := by
  refine spec_of_awp (M := MM) (np := 3) (fz := true) mixed Try.func200 rfl rfl (by decide) rfl (Nat.le_refl _) (by decide +kernel) (.inr ⟨rfl, rfl⟩) trivial ?_
  simp -dsimp -implicitDefEqProofs (disch := first | omega | (simp only [lenr]; done) | (simp only [lenr]; omega)) only [↓amPre, amPost0, amPost1, amPost2, amPost3, ↓reduceIte, reduceCtorEq, Nat.reduceEqDiff, Nat.reduceBEq, Nat.reduceAdd, Nat.reduceLeDiff, Nat.reduceSub, Nat.reduceMul, Int.reduceToNat, List.size_toArray, tyF, MM, bu0, ipure, kpure, tpure, sspure, kset, tset, ksnoc, tsnoc, Kind.av, Twist.sl, Twist.tr, Invar.av, stsize, stget, sttl, stapp, stext, tsspure, Model.sl, Model.tr]
  refine callP_of (sIsPieceState ks s h1 ha.1 ha.2) ?_
  by_cases ps : psOk ks s
  case neg =>
    have hR : parR ks s set = -1 := if_neg fun h => ps h.1
    simp -dsimp -implicitDefEqProofs (disch := first | omega | (simp only [lenr]; done) | (simp only [lenr]; omega)) only [↓amPre, amPost0, amPost1, amPost2, amPost3, ↓reduceIte, reduceCtorEq, Nat.reduceEqDiff, Nat.reduceBEq, Nat.reduceAdd, Nat.reduceLeDiff, Nat.reduceSub, Nat.reduceMul, Int.reduceToNat, List.size_toArray, tyF, MM, bu0, ipure, kpure, tpure, sspure, kset, tset, ksnoc, tsnoc, Kind.av, Twist.sl, Twist.tr, Invar.av, stsize, stget, sttl, stapp, stext, tsspure, Model.sl, Model.tr, ps, hR]
  have hpw := pow_small ps.1.1.2
  simp -dsimp -implicitDefEqProofs (disch := first | omega | (simp only [lenr]; done) | (simp only [lenr]; omega)) only [↓amPre, amPost0, amPost1, amPost2, amPost3, ↓reduceIte, reduceCtorEq, Nat.reduceEqDiff, Nat.reduceBEq, Nat.reduceAdd, Nat.reduceLeDiff, Nat.reduceSub, Nat.reduceMul, Int.reduceToNat, List.size_toArray, tyF, MM, bu0, ipure, kpure, tpure, sspure, kset, tset, ksnoc, tsnoc, Kind.av, Twist.sl, Twist.tr, Invar.av, stsize, stget, sttl, stapp, stext, tsspure, Model.sl, Model.tr, ps]
  refine callP_of (sl22Sets ks ps.1) ?_
  simp -dsimp -implicitDefEqProofs (disch := first | omega | (simp only [lenr]; done) | (simp only [lenr]; omega)) only [↓amPre, amPost0, amPost1, amPost2, amPost3, ↓reduceIte, reduceCtorEq, Nat.reduceEqDiff, Nat.reduceBEq, Nat.reduceAdd, Nat.reduceLeDiff, Nat.reduceSub, Nat.reduceMul, Int.reduceToNat, List.size_toArray, tyF, MM, bu0, ipure, kpure, tpure, sspure, kset, tset, ksnoc, tsnoc, Kind.av, Twist.sl, Twist.tr, Invar.av, stsize, stget, sttl, stapp, stext, tsspure, Model.sl, Model.tr, ps]
  refine callP_of (inRange _ _ _) ?_
  by_cases c : 1 ≤ set ∧ set ≤ ((2 ^ ks.length : Nat) : Int) - 1
  · have hR : parR ks s set = _ := if_pos ⟨ps, c⟩
    have w := within_iff.2 c
    simp -dsimp -implicitDefEqProofs (disch := first | omega | (simp only [lenr]; done) | (simp only [lenr]; omega)) only [↓amPre, amPost0, amPost1, amPost2, amPost3, ↓reduceIte, reduceCtorEq, Nat.reduceEqDiff, Nat.reduceBEq, Nat.reduceAdd, Nat.reduceLeDiff, Nat.reduceSub, Nat.reduceMul, Int.reduceToNat, List.size_toArray, tyF, MM, bu0, ipure, kpure, tpure, sspure, kset, tset, ksnoc, tsnoc, Kind.av, Twist.sl, Twist.tr, Invar.av, stsize, stget, sttl, stapp, stext, tsspure, Model.sl, Model.tr, ps, w]
    refine callP_of (sl22Parity s set (ps_perms ps).1 (ps_perms ps).2) ?_
    simp -dsimp -implicitDefEqProofs (disch := first | omega | (simp only [lenr]; done) | (simp only [lenr]; omega)) only [↓amPre, amPost0, amPost1, amPost2, amPost3, ↓reduceIte, reduceCtorEq, Nat.reduceEqDiff, Nat.reduceBEq, Nat.reduceAdd, Nat.reduceLeDiff, Nat.reduceSub, Nat.reduceMul, Int.reduceToNat, List.size_toArray, tyF, MM, bu0, ipure, kpure, tpure, sspure, kset, tset, ksnoc, tsnoc, Kind.av, Twist.sl, Twist.tr, Invar.av, stsize, stget, sttl, stapp, stext, tsspure, Model.sl, Model.tr, hR]
  · have hR : parR ks s set = -1 := if_neg fun h => c h.2
    have w : within set 1 (((2 ^ ks.length : Nat) : Int) - 1) = false := within_not.2 c
    simp -dsimp -implicitDefEqProofs (disch := first | omega | (simp only [lenr]; done) | (simp only [lenr]; omega)) only [↓amPre, amPost0, amPost1, amPost2, amPost3, ↓reduceIte, reduceCtorEq, Nat.reduceEqDiff, Nat.reduceBEq, Nat.reduceAdd, Nat.reduceLeDiff, Nat.reduceSub, Nat.reduceMul, Int.reduceToNat, List.size_toArray, tyF, MM, bu0, ipure, kpure, tpure, sspure, kset, tset, ksnoc, tsnoc, Kind.av, Twist.sl, Twist.tr, Invar.av, stsize, stget, sttl, stapp, stext, tsspure, Model.sl, Model.tr, ps, w, hR]
end Go.AM

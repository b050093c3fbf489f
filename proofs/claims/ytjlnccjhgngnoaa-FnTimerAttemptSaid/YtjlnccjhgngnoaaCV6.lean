/-
  CONTRACTS of functions of the program, and what they compute, by content.
-/
import Derived.Test.YtjlnccjhgngnoaaCV4
set_option linter.unusedVariables false
set_option linter.unusedSimpArgs false
set_option maxRecDepth 8000
namespace Go.AM
namespace Dice
open Go.Proofs
def MM : FuncId → List Bool := fun f => if f = 40 then [true, false] else []
structure Dc where
  b : List UInt8
  i : Nat
  h : Int
abbrev u64 (n : Int) : AV := .v (.int .u64 n)
abbrev bsl (l : List UInt8) : AV := .sl 1 (l.map fun x => .u8 x.toNat)
abbrev Dc.pt (s : Dc) : AV := .pt 3 (.agg [bsl s.b, .i64 s.i, u64 s.h])
abbrev Dc.ok (s : Dc) : Prop := s.b.length ≤ 4096 ∧ s.i ≤ s.b.length
instance : Thing UInt8 := ⟨⟩
theorem wrapU_id {x : Int} (h : 0 ≤ x ∧ x < 18446744073709551616) : IntKind.u64.wrap x = x := by
  unfold IntKind.wrap
  simp only [IntKind.signed, IntKind.bits, Bool.false_and, Bool.false_eq_true, if_false]
  exact Int.emod_eq_of_lt h.1 h.2
theorem andU (a : Int) : 0 ≤ bitsI .and .u64 a 16777215 ∧ bitsI .and .u64 a 16777215 ≤ 16777215 := by
  have h : (BitVec.ofInt 64 a &&& BitVec.ofInt 64 16777215).toNat ≤ 16777215 := by
    rw [BitVec.toNat_and]
    exact Nat.le_trans Nat.and_le_right (by decide)
  have e : bitsI .and .u64 a 16777215 = ((BitVec.ofInt 64 a &&& BitVec.ofInt 64 16777215).toNat : Int) := by
    show IntKind.u64.wrap ((BitVec.ofInt 64 a &&& BitVec.ofInt 64 16777215).toNat : Int) = _
    apply wrapU_id; omega
  rw [e]; omega
def nxH (h : Int) : Int := IntKind.u64.wrap (IntKind.u64.wrap (h * 6364136223846793005) + 1442695040888963407)
theorem dbelow (s : Dc) (n : Int) (h : s.ok) (hn : 1 ≤ n ∧ n ≤ 1000000) : ∃ (s' : Dc) (x : Int), SpecX Try.prog 40 [s.pt, .i64 n] [some s'.pt] (.i64 x) ∧ s'.ok ∧ 0 ≤ x ∧ x < n := by
  have h1 := h.1
  have h2 := h.2
  have hn' : nxH s.h = IntKind.u64.wrap (IntKind.u64.wrap (s.h * 6364136223846793005) + 1442695040888963407) := rfl
  have ha := andU ((nxH s.h).fdiv (2 ^ (min 33 64)))
  obtain ⟨y, hy⟩ : ∃ y, y = bitsI .and .u64 ((nxH s.h).fdiv (2 ^ (min 33 64))) 16777215 := ⟨_, rfl⟩
  rw [← hy] at ha
  have e1 : IntKind.i64.wrap y = y := wrap64_id (by omega)
  have hne : n ≠ 0 := by omega
  have hb : IntKind.u64.bits = 64 := rfl
  by_cases hk : s.i < s.b.length
  · have hu : (s.b.getD s.i default).toNat < 256 := (s.b.getD s.i default).toNat_lt
    have e2 : IntKind.i64.wrap ((s.b.getD s.i default).toNat : Int) = (s.b.getD s.i default).toNat := wrap64_id (by omega)
    have e3 : IntKind.i64.wrap (y + ((s.b.getD s.i default).toNat : Int)) = y + ((s.b.getD s.i default).toNat : Int) := wrap64_id (by omega)
    refine ⟨⟨s.b, s.i + 1, nxH s.h⟩, (y + ((s.b.getD s.i default).toNat : Int)).tmod n, ?_, ⟨h1, hk⟩, Int.tmod_nonneg _ (by omega), Int.tmod_lt_of_pos _ (by omega)⟩
    refine spec_of_awp (M := MM) (np := 2) (fz := false) mixed Try.func40 rfl rfl (by decide) rfl (Nat.le_refl _) (by decide +kernel) (.inl rfl) (by simp only [sigsOk_some, sigsOk_nil, and_true]; rfl) ?_
    simp -dsimp -implicitDefEqProofs (disch := first | omega | (simp only [lenr]; done) | (simp only [lenr]; omega)) only [↓amPre, amAll, ↓reduceIte, reduceCtorEq, Nat.reduceEqDiff, Nat.reduceBEq, Nat.reduceAdd, Nat.reduceLeDiff, Nat.reduceSub, Nat.reduceMul, Int.reduceToNat, List.size_toArray, tyF, MM, bu0, ipure, kpure, tpure, sspure, kset, tset, ksnoc, tsnoc, Kind.av, Twist.sl, Twist.tr, Invar.av, hb, ← hn', ← hy, hne, e1, e2, e3]
  · refine ⟨⟨s.b, s.i, nxH s.h⟩, y.tmod n, ?_, ⟨h1, h2⟩, Int.tmod_nonneg _ (by omega), Int.tmod_lt_of_pos _ (by omega)⟩
    refine spec_of_awp (M := MM) (np := 2) (fz := false) mixed Try.func40 rfl rfl (by decide) rfl (Nat.le_refl _) (by decide +kernel) (.inl rfl) (by simp only [sigsOk_some, sigsOk_nil, and_true]; rfl) ?_
    simp -dsimp -implicitDefEqProofs (disch := first | omega | (simp only [lenr]; done) | (simp only [lenr]; omega)) only [↓amPre, amAll, ↓reduceIte, reduceCtorEq, Nat.reduceEqDiff, Nat.reduceBEq, Nat.reduceAdd, Nat.reduceLeDiff, Nat.reduceSub, Nat.reduceMul, Int.reduceToNat, List.size_toArray, tyF, MM, bu0, ipure, kpure, tpure, sspure, kset, tset, ksnoc, tsnoc, Kind.av, Twist.sl, Twist.tr, Invar.av, hb, ← hn', ← hy, hne, e1]
def rlK (l : List UInt8) (h : Int) : Nat → Int
  | 0 => IntKind.u64.wrap (IntKind.u64.wrap (h * 7919) + IntKind.u64.wrap l.length)
  | k + 1 => IntKind.u64.wrap (IntKind.u64.wrap (IntKind.u64.wrap (rlK l h k * 1099511628211) + IntKind.u64.wrap (l.getD k default).toNat) + 3)
theorem droll (l : List UInt8) (h : Int) (hl : l.length ≤ 4096) : SpecAt Try.prog 39 [bsl l, u64 h] (Dc.pt ⟨l, 0, rlK l h l.length⟩) := by
  have h0 : rlK l h 0 = IntKind.u64.wrap (IntKind.u64.wrap (h * 7919) + IntKind.u64.wrap l.length) := rfl
  refine spec_of_awp (M := MM) (np := 2) (fz := false) mixed Try.func39 rfl rfl (by decide) rfl (Nat.le_refl _) (by decide +kernel) (.inl rfl) (by first | trivial | simp only [sigsOk_nil, sigsOk_some, sigsOk_none, sig_tr, sig_pt, sig_mt, sig_agg, List.map_cons, List.map_nil, sig1_tr, sig1_pt, sig1_v, and_self, true_and, List.length_map, List.length_set]) ?_
  simp -dsimp -implicitDefEqProofs (disch := first | omega | (simp only [lenr]; done) | (simp only [lenr]; omega)) only [↓amPre, amAll, ↓reduceIte, reduceCtorEq, Nat.reduceEqDiff, Nat.reduceBEq, Nat.reduceAdd, Nat.reduceLeDiff, Nat.reduceSub, Nat.reduceMul, Int.reduceToNat, List.size_toArray, tyF, MM, bu0, ipure, kpure, tpure, sspure, kset, tset, ksnoc, tsnoc, Kind.av, Twist.sl, Twist.tr, Invar.av, ← h0]
  refine awp_loop (fun k st => k ≤ l.length ∧ st.fr 6 = .i64 k ∧ st.fr 5 = .loc 15 [] 0 0 ∧ st.fr 0 = bsl l ∧ st.mem 15 = some (Dc.pt ⟨l, 0, rlK l h k⟩)) (l.length) ?_ ?_
  · simp -dsimp -implicitDefEqProofs (disch := first | omega | (simp only [lenr]; done) | (simp only [lenr]; omega)) only [↓amPre, amAll, ↓reduceIte, reduceCtorEq, Nat.reduceEqDiff, Nat.reduceBEq, Nat.reduceAdd, Nat.reduceLeDiff, Nat.reduceSub, Nat.reduceMul, Int.reduceToNat, List.size_toArray, tyF, MM, bu0, ipure, kpure, tpure, sspure, kset, tset, ksnoc, tsnoc, Kind.av, Twist.sl, Twist.tr, Invar.av, ← h0]
    exact ⟨Nat.zero_le _, rfl, rfl⟩
  rintro k st _ ⟨hk, f6, f5, f0, m15⟩
  have hs1 : rlK l h (k + 1) = IntKind.u64.wrap (IntKind.u64.wrap (IntKind.u64.wrap (rlK l h k * 1099511628211) + IntKind.u64.wrap (l.getD k default).toNat) + 3) := rfl
  by_cases hlt : k < l.length
  · simp -dsimp -implicitDefEqProofs (disch := first | omega | (simp only [lenr]; done) | (simp only [lenr]; omega)) only [↓amPre, amAll, ↓reduceIte, reduceCtorEq, Nat.reduceEqDiff, Nat.reduceBEq, Nat.reduceAdd, Nat.reduceLeDiff, Nat.reduceSub, Nat.reduceMul, Int.reduceToNat, List.size_toArray, tyF, MM, bu0, ipure, kpure, tpure, sspure, kset, tset, ksnoc, tsnoc, Kind.av, Twist.sl, Twist.tr, Invar.av, f6, f5, f0, m15, ← hs1]
    repeat' (first | omega | rfl | exact i64c (by omega) | exact vic (by omega) | apply And.intro)
  · have hke : k = l.length := by omega
    subst hke
    simp -dsimp -implicitDefEqProofs (disch := first | omega | (simp only [lenr]; done) | (simp only [lenr]; omega)) only [↓amPre, amAll, ↓reduceIte, reduceCtorEq, Nat.reduceEqDiff, Nat.reduceBEq, Nat.reduceAdd, Nat.reduceLeDiff, Nat.reduceSub, Nat.reduceMul, Int.reduceToNat, List.size_toArray, tyF, MM, bu0, ipure, kpure, tpure, sspure, kset, tset, ksnoc, tsnoc, Kind.av, Twist.sl, Twist.tr, Invar.av, f6, f5, f0, m15]
theorem dbig (l : List UInt8) : SpecAt Try.prog 38 [bsl l] (.bl (decide ((4096 : Int) < l.length))) := by
  refine spec_of_awp (M := MM) (np := 1) (fz := true) mixed Try.func38 rfl rfl (by decide) rfl (Nat.le_refl _) (by decide +kernel) (.inr ⟨rfl, rfl⟩) trivial ?_
  simp -dsimp -implicitDefEqProofs (disch := first | omega | (simp only [lenr]; done) | (simp only [lenr]; omega)) only [↓amPre, amAll, ↓reduceIte, reduceCtorEq, Nat.reduceEqDiff, Nat.reduceBEq, Nat.reduceAdd, Nat.reduceLeDiff, Nat.reduceSub, Nat.reduceMul, Int.reduceToNat, List.size_toArray, tyF, MM, bu0, ipure, kpure, tpure, sspure, kset, tset, ksnoc, tsnoc, Kind.av, Twist.sl, Twist.tr, Invar.av]
abbrev evsl (l : List TEvent) : AV := .sl 2 (l.map TEvent.av)
abbrev evtr (l : List TEvent) : AV := .tr 2 (l.map TEvent.av)
def zeroT : Timer := ⟨0, 0, 0, 0, 0, 0, 0, false⟩
def evT (t : Timer) (e : TEvent) : Timer × Bool := if validT t = true then (if t.last ≤ e.at' ∧ e.at' ≤ 360000 then applyT t e.kind e.at' else (t, false)) else (zeroT, false)
theorem evR_evT (t : Timer) (e : TEvent) : evR t e = .tup [(evT t e).1.av, .bl (evT t e).2] := by
  unfold evR evT
  split
  · split
    · rfl
    · rfl
  · rfl
instance : Thing TEvent := { default := ⟨0, 0⟩ }
def runT (t : Timer) (l : List TEvent) : Nat → Timer × Int
  | 0 => (t, 0)
  | k + 1 => ((evT (runT t l k).1 (l.getD k default)).1, (runT t l k).2 + if (evT (runT t l k).1 (l.getD k default)).2 = true then 1 else 0)
theorem runT_bound (t : Timer) (l : List TEvent) : ∀ k, 0 ≤ (runT t l k).2 ∧ (runT t l k).2 ≤ k
  | 0 => by simp [runT]
  | k + 1 => by
    have := runT_bound t l k
    rw [runT]; simp only
    split <;> omega
theorem iRunTimer (t : Timer) (l : List TEvent) (hl : l.length ≤ 60) (hv : validT t = true) : SpecAt Try.prog 41 [t.av, evsl l] (.tup [(runT t l l.length).1.av, .i64 (runT t l l.length).2]) := by
  have hvs := isValidImpl_spec t
  rw [hv] at hvs
  have hl2 : (l.length : Int) ≤ 60 := by omega
  refine spec_of_awp (M := MM) (np := 2) (fz := true) mixed Try.func41 rfl rfl (by decide) rfl (Nat.le_refl _) (by decide +kernel) (.inr ⟨rfl, rfl⟩) trivial ?_
  simp -dsimp -implicitDefEqProofs (disch := first | omega | (simp only [lenr]; done) | (simp only [lenr]; omega)) only [↓amPre, amAll, ↓reduceIte, reduceCtorEq, Nat.reduceEqDiff, Nat.reduceBEq, Nat.reduceAdd, Nat.reduceLeDiff, Nat.reduceSub, Nat.reduceMul, Int.reduceToNat, List.size_toArray, tyF, MM, bu0, ipure, kpure, tpure, sspure, kset, tset, ksnoc, tsnoc, Kind.av, Twist.sl, Twist.tr, Invar.av, Timer.av]
  refine callP_of (hvs) ?_
  simp -dsimp -implicitDefEqProofs (disch := first | omega | (simp only [lenr]; done) | (simp only [lenr]; omega)) only [↓amPre, amAll, ↓reduceIte, reduceCtorEq, Nat.reduceEqDiff, Nat.reduceBEq, Nat.reduceAdd, Nat.reduceLeDiff, Nat.reduceSub, Nat.reduceMul, Int.reduceToNat, List.size_toArray, tyF, MM, bu0, ipure, kpure, tpure, sspure, kset, tset, ksnoc, tsnoc, Kind.av, Twist.sl, Twist.tr, Invar.av, Timer.av, lt_false hl2]
  refine awp_loop (fun k st => k ≤ l.length ∧ st.fr 22 = .i64 k ∧ st.fr 21 = .i64 l.length ∧ st.fr 20 = evsl l ∧ st.fr 6 = .i64 (runT t l k).2 ∧ st.fr 5 = .i64 0 ∧ st.fr 4 = .loc 4 [] 0 0 ∧ st.fr 2 = .loc 2 [] 0 0 ∧ st.mem 2 = some (.pt 8 (runT t l k).1.av) ∧ st.mem 4 = some (.pt 8 z8)) (l.length) ?_ ?_
  · simp -dsimp -implicitDefEqProofs (disch := first | omega | (simp only [lenr]; done) | (simp only [lenr]; omega)) only [↓amPre, amAll, ↓reduceIte, reduceCtorEq, Nat.reduceEqDiff, Nat.reduceBEq, Nat.reduceAdd, Nat.reduceLeDiff, Nat.reduceSub, Nat.reduceMul, Int.reduceToNat, List.size_toArray, tyF, MM, bu0, ipure, kpure, tpure, sspure, kset, tset, ksnoc, tsnoc, Kind.av, Twist.sl, Twist.tr, Invar.av, runT]
    exact ⟨Nat.zero_le _, rfl, rfl⟩
  rintro k st _ ⟨hk, f22, f21, f20, f6, f5, f4, f2, m2, m4⟩
  have hb := runT_bound t l k
  by_cases hlt : k < l.length
  · have hr := iApplyEvent (runT t l k).1 (l.getD k default)
    rw [evR_evT] at hr
    have hs : runT t l (k + 1) = _ := rfl
    conv at hs => rhs; rw [runT]
    generalize evT (runT t l k).1 (l.getD k default) = R at hr hs
    generalize hT : (runT t l k).1 = T at hr f22 m2
    generalize hN : (runT t l k).2 = n at hb hs f6
    obtain ⟨R, f⟩ := R
    simp -dsimp -implicitDefEqProofs (disch := first | omega | (simp only [lenr]; done) | (simp only [lenr]; omega)) only [↓amPre, amAll, ↓reduceIte, reduceCtorEq, Nat.reduceEqDiff, Nat.reduceBEq, Nat.reduceAdd, Nat.reduceLeDiff, Nat.reduceSub, Nat.reduceMul, Int.reduceToNat, List.size_toArray, tyF, MM, bu0, ipure, kpure, tpure, sspure, kset, tset, ksnoc, tsnoc, Kind.av, Twist.sl, Twist.tr, Invar.av, f22, f21, f20, f6, f5, f4, f2, m2, m4, Timer.av, TEvent.av]
    refine callP_of (hr) ?_
    cases f with
    | true =>
      simp -dsimp -implicitDefEqProofs (disch := first | omega | (simp only [lenr]; done) | (simp only [lenr]; omega)) only [↓amPre, amAll, ↓reduceIte, reduceCtorEq, Nat.reduceEqDiff, Nat.reduceBEq, Nat.reduceAdd, Nat.reduceLeDiff, Nat.reduceSub, Nat.reduceMul, Int.reduceToNat, List.size_toArray, tyF, MM, bu0, ipure, kpure, tpure, sspure, kset, tset, ksnoc, tsnoc, Kind.av, Twist.sl, Twist.tr, Invar.av, f22, f21, f20, f6, f5, f4, f2, m2, m4, Timer.av, TEvent.av, hs]
      repeat' (first | omega | rfl | exact i64c (by omega) | exact vic (by omega) | apply And.intro)
    | false =>
      simp -dsimp -implicitDefEqProofs (disch := first | omega | (simp only [lenr]; done) | (simp only [lenr]; omega)) only [↓amPre, amAll, ↓reduceIte, reduceCtorEq, Nat.reduceEqDiff, Nat.reduceBEq, Nat.reduceAdd, Nat.reduceLeDiff, Nat.reduceSub, Nat.reduceMul, Int.reduceToNat, List.size_toArray, tyF, MM, bu0, ipure, kpure, tpure, sspure, kset, tset, ksnoc, tsnoc, Kind.av, Twist.sl, Twist.tr, Invar.av, f22, f21, f20, f6, f5, f4, f2, m2, m4, Timer.av, TEvent.av, hs]
      repeat' (first | omega | rfl | exact i64c (by omega) | exact vic (by omega) | apply And.intro)
  · have hke : k = l.length := by omega
    subst hke
    simp -dsimp -implicitDefEqProofs (disch := first | omega | (simp only [lenr]; done) | (simp only [lenr]; omega)) only [↓amPre, amAll, ↓reduceIte, reduceCtorEq, Nat.reduceEqDiff, Nat.reduceBEq, Nat.reduceAdd, Nat.reduceLeDiff, Nat.reduceSub, Nat.reduceMul, Int.reduceToNat, List.size_toArray, tyF, MM, bu0, ipure, kpure, tpure, sspure, kset, tset, ksnoc, tsnoc, Kind.av, Twist.sl, Twist.tr, Invar.av, f22, f21, f20, f6, f5, f4, f2, m2, m4, Timer.av]
end Dice
end Go.AM

/-
  CONTRACTS of functions of the program, and what they compute, by content.
-/
import Derived.Test.YtbhaeaehgmpfhaaCU1
set_option linter.unusedVariables false
set_option linter.unusedSimpArgs false
set_option maxRecDepth 8000
namespace Go.AM
namespace Draws
open Go.Proofs
def MM : FuncId → List Bool := fun f => if f = 162 then [true] else if f = 87 then [true, false] else if f = 160 then [true, false] else if f = 161 then [true, false, false] else if f = 88 then [true, false] else if f = 163 then [true] else if f = 159 then [true] else if f = 89 then [true, false] else if f = 102 then [true, true] else if f = 85 then [true] else []
structure Src where
  b : List UInt8
  k : Nat
  s : Int
abbrev bsl (l : List UInt8) : AV := .sl 1 (l.map fun x => .u8 x.toNat)
abbrev Src.pt (s : Src) : AV := .pt 3 (.agg [bsl s.b, .i64 s.k, .i64 s.s])
abbrev Src.ok (s : Src) : Prop := s.b.length ≤ 4096 ∧ s.k ≤ s.b.length ∧ intOk s.s
instance : Thing UInt8 := ⟨⟩
def nxS (s : Int) : Int := IntKind.i64.wrap (IntKind.i64.wrap (s * 6364136223846793005) + 1442695040888963407)
def nxX (s : Int) : Int := bitsI .and .i64 (bitsI .xor .i64 (s.fdiv (2 ^ (min 33 64))) (s.fdiv (2 ^ (min 45 64)))) 255
theorem and255 (a : Int) : 0 ≤ bitsI .and .i64 a 255 ∧ bitsI .and .i64 a 255 ≤ 255 := by
  have h : (BitVec.ofInt 64 a &&& BitVec.ofInt 64 255).toNat ≤ 255 := by
    rw [BitVec.toNat_and]
    exact Nat.le_trans Nat.and_le_right (by decide)
  have e : bitsI .and .i64 a 255 = ((BitVec.ofInt 64 a &&& BitVec.ofInt 64 255).toNat : Int) := by
    show IntKind.i64.wrap ((BitVec.ofInt 64 a &&& BitVec.ofInt 64 255).toNat : Int) = _
    apply wrap64_id; omega
  rw [e]; omega
theorem wrap_ok (x : Int) : intOk (IntKind.i64.wrap x) := by
  unfold intOk IntKind.wrap
  simp only [IntKind.signed, IntKind.bits, Bool.true_and, decide_eq_true_eq, ge_iff_le, Nat.reduceSub, Int.reducePow, Nat.reducePow]
  constructor <;> split <;> omega
theorem nextByte (s : Src) (h : s.ok) : ∃ (s' : Src) (x : Int), SpecX Try.prog 162 [s.pt] [some s'.pt] (.i64 x) ∧ s'.ok ∧ 0 ≤ x ∧ x ≤ 255 := by
  have h1 := h.1
  have h2 := h.2.1
  have h3 := h.2.2
  have hb : IntKind.i64.bits = 64 := rfl
  have hw : intOk (nxS s.s) := wrap_ok _
  have ha := and255 (bitsI .xor .i64 ((nxS s.s).fdiv (2 ^ (min 33 64))) ((nxS s.s).fdiv (2 ^ (min 45 64))))
  have hn : nxS s.s = IntKind.i64.wrap (IntKind.i64.wrap (s.s * 6364136223846793005) + 1442695040888963407) := rfl
  by_cases hk : s.k < s.b.length
  case neg =>
    refine ⟨⟨s.b, s.k, nxS s.s⟩, nxX (nxS s.s), ?_, ⟨h1, h2, hw⟩, ha⟩
    unfold intOk at h3
    have hkl : s.k = s.b.length := by omega
    refine spec_of_awp (M := MM) (np := 1) (fz := false) mixed Try.func162 rfl rfl (by decide) rfl (Nat.le_refl _) (by decide +kernel) (.inl rfl) (by simp only [sigsOk_some, sigsOk_nil, and_true]; rfl) ?_
    simp -dsimp -implicitDefEqProofs (disch := first | omega | (simp only [lenr]; done) | (simp only [lenr]; omega)) only [↓amPre, amAll, ↓reduceIte, reduceCtorEq, Nat.reduceEqDiff, Nat.reduceBEq, Nat.reduceAdd, Nat.reduceLeDiff, Nat.reduceSub, Nat.reduceMul, Int.reduceToNat, List.size_toArray, tyF, MM, bu0, hb, hkl]
    exact ⟨rfl, rfl⟩
  have hu : (s.b.getD s.k default).toNat < 256 := (s.b.getD s.k default).toNat_lt
  have hv := and255 (nxX (nxS s.s) + ((s.b.getD s.k default).toNat : Int))
  have hx : 0 ≤ nxX (nxS s.s) ∧ nxX (nxS s.s) ≤ 255 := ha
  refine ⟨⟨s.b, s.k + 1, nxS s.s⟩, bitsI .and .i64 (nxX (nxS s.s) + ((s.b.getD s.k default).toNat : Int)) 255, ?_, ⟨h1, hk, hw⟩, hv⟩
  unfold intOk at h3
  have hX : bitsI .and .i64 (bitsI .xor .i64 ((nxS s.s).fdiv (2 ^ (min 33 64))) ((nxS s.s).fdiv (2 ^ (min 45 64)))) 255 = nxX (nxS s.s) := rfl
  have e1 : IntKind.i64.wrap ((s.b.getD s.k default).toNat : Int) = (s.b.getD s.k default).toNat := wrap64_id (by omega)
  have e2 : IntKind.i64.wrap (nxX (nxS s.s) + ((s.b.getD s.k default).toNat : Int)) = nxX (nxS s.s) + ((s.b.getD s.k default).toNat : Int) := wrap64_id (by omega)
  refine spec_of_awp (M := MM) (np := 1) (fz := false) mixed Try.func162 rfl rfl (by decide) rfl (Nat.le_refl _) (by decide +kernel) (.inl rfl) (by simp only [sigsOk_some, sigsOk_nil, and_true]; rfl) ?_
  simp -dsimp -implicitDefEqProofs (disch := first | omega | (simp only [lenr]; done) | (simp only [lenr]; omega)) only [↓amPre, amAll, ↓reduceIte, reduceCtorEq, Nat.reduceEqDiff, Nat.reduceBEq, Nat.reduceAdd, Nat.reduceLeDiff, Nat.reduceSub, Nat.reduceMul, Int.reduceToNat, List.size_toArray, tyF, MM, bu0, hb, ← hn, hX, e1, e2]
theorem below (s : Src) (n : Int) (h : s.ok) (hn : intOk n) : ∃ (s' : Src) (x : Int), SpecX Try.prog 87 [s.pt, .i64 n] [some s'.pt] (.i64 x) ∧ s'.ok ∧ 0 ≤ x ∧ (0 < n → x < n) ∧ (n ≤ 0 → x = 0) := by
  unfold intOk at hn
  by_cases n0 : n ≤ 0
  · refine ⟨s, 0, ?_, h, by omega, by omega, fun _ => rfl⟩
    refine spec_of_awp (M := MM) (np := 2) (fz := false) mixed Try.func87 rfl rfl (by decide) rfl (Nat.le_refl _) (by decide +kernel) (.inl rfl) (by simp only [sigsOk_some, sigsOk_nil, and_true]) ?_
    simp -dsimp -implicitDefEqProofs (disch := first | omega | (simp only [lenr]; done) | (simp only [lenr]; omega)) only [↓amPre, amAll, ↓reduceIte, reduceCtorEq, Nat.reduceEqDiff, Nat.reduceBEq, Nat.reduceAdd, Nat.reduceLeDiff, Nat.reduceSub, Nat.reduceMul, Int.reduceToNat, List.size_toArray, tyF, MM, bu0, lt_false n0]
  obtain ⟨s1, x1, q1, k1, b1⟩ := nextByte s h
  by_cases n1 : n ≤ 256
  · refine ⟨s1, x1.tmod n, ?_, k1, Int.tmod_nonneg _ b1.1, fun q => Int.tmod_lt_of_pos _ q, fun q => by omega⟩
    have hne : n ≠ 0 := by omega
    refine spec_of_awp (M := MM) (np := 2) (fz := false) mixed Try.func87 rfl rfl (by decide) rfl (Nat.le_refl _) (by decide +kernel) (.inl rfl) (by simp only [sigsOk_some, sigsOk_nil, and_true]; rfl) ?_
    simp -dsimp -implicitDefEqProofs (disch := first | omega | (simp only [lenr]; done) | (simp only [lenr]; omega)) only [↓amPre, amAll, ↓reduceIte, reduceCtorEq, Nat.reduceEqDiff, Nat.reduceBEq, Nat.reduceAdd, Nat.reduceLeDiff, Nat.reduceSub, Nat.reduceMul, Int.reduceToNat, List.size_toArray, tyF, MM, bu0, lt_true (Int.not_le.1 n0), lt_false n1]
    refine callX_of (q1) ?_
    simp -dsimp -implicitDefEqProofs (disch := first | omega | (simp only [lenr]; done) | (simp only [lenr]; omega)) only [↓amPre, amAll, ↓reduceIte, reduceCtorEq, Nat.reduceEqDiff, Nat.reduceBEq, Nat.reduceAdd, Nat.reduceLeDiff, Nat.reduceSub, Nat.reduceMul, Int.reduceToNat, List.size_toArray, tyF, MM, bu0, hne]
  obtain ⟨s2, x2, q2, k2, b2⟩ := nextByte s1 k1
  obtain ⟨s3, x3, q3, k3, b3⟩ := nextByte s2 k2
  obtain ⟨s4, x4, q4, k4, b4⟩ := nextByte s3 k3
  refine ⟨s4, (x1 * 16777216 + x2 * 65536 + x3 * 256 + x4).tmod n, ?_, k4, Int.tmod_nonneg _ (by omega), fun q => Int.tmod_lt_of_pos _ q, fun q => by omega⟩
  have hne : n ≠ 0 := by omega
  have e1 : IntKind.i64.wrap (x1 * 16777216) = x1 * 16777216 := wrap64_id (by omega)
  have e2 : IntKind.i64.wrap (x2 * 65536) = x2 * 65536 := wrap64_id (by omega)
  have e3 : IntKind.i64.wrap (x3 * 256) = x3 * 256 := wrap64_id (by omega)
  have e4 : IntKind.i64.wrap (x1 * 16777216 + x2 * 65536) = x1 * 16777216 + x2 * 65536 := wrap64_id (by omega)
  have e5 : IntKind.i64.wrap (x1 * 16777216 + x2 * 65536 + x3 * 256) = x1 * 16777216 + x2 * 65536 + x3 * 256 := wrap64_id (by omega)
  have e6 : IntKind.i64.wrap (x1 * 16777216 + x2 * 65536 + x3 * 256 + x4) = x1 * 16777216 + x2 * 65536 + x3 * 256 + x4 := wrap64_id (by omega)
  refine spec_of_awp (M := MM) (np := 2) (fz := false) mixed Try.func87 rfl rfl (by decide) rfl (Nat.le_refl _) (by decide +kernel) (.inl rfl) (by simp only [sigsOk_some, sigsOk_nil, and_true]; rfl) ?_
  simp -dsimp -implicitDefEqProofs (disch := first | omega | (simp only [lenr]; done) | (simp only [lenr]; omega)) only [↓amPre, amAll, ↓reduceIte, reduceCtorEq, Nat.reduceEqDiff, Nat.reduceBEq, Nat.reduceAdd, Nat.reduceLeDiff, Nat.reduceSub, Nat.reduceMul, Int.reduceToNat, List.size_toArray, tyF, MM, bu0, lt_true (Int.not_le.1 n0), lt_true (Int.not_le.1 n1)]
  refine callX_of (q1) ?_
  simp -dsimp -implicitDefEqProofs (disch := first | omega | (simp only [lenr]; done) | (simp only [lenr]; omega)) only [↓amPre, amAll, ↓reduceIte, reduceCtorEq, Nat.reduceEqDiff, Nat.reduceBEq, Nat.reduceAdd, Nat.reduceLeDiff, Nat.reduceSub, Nat.reduceMul, Int.reduceToNat, List.size_toArray, tyF, MM, bu0]
  refine callX_of (q2) ?_
  simp -dsimp -implicitDefEqProofs (disch := first | omega | (simp only [lenr]; done) | (simp only [lenr]; omega)) only [↓amPre, amAll, ↓reduceIte, reduceCtorEq, Nat.reduceEqDiff, Nat.reduceBEq, Nat.reduceAdd, Nat.reduceLeDiff, Nat.reduceSub, Nat.reduceMul, Int.reduceToNat, List.size_toArray, tyF, MM, bu0]
  refine callX_of (q3) ?_
  simp -dsimp -implicitDefEqProofs (disch := first | omega | (simp only [lenr]; done) | (simp only [lenr]; omega)) only [↓amPre, amAll, ↓reduceIte, reduceCtorEq, Nat.reduceEqDiff, Nat.reduceBEq, Nat.reduceAdd, Nat.reduceLeDiff, Nat.reduceSub, Nat.reduceMul, Int.reduceToNat, List.size_toArray, tyF, MM, bu0]
  refine callX_of (q4) ?_
  simp -dsimp -implicitDefEqProofs (disch := first | omega | (simp only [lenr]; done) | (simp only [lenr]; omega)) only [↓amPre, amAll, ↓reduceIte, reduceCtorEq, Nat.reduceEqDiff, Nat.reduceBEq, Nat.reduceAdd, Nat.reduceLeDiff, Nat.reduceSub, Nat.reduceMul, Int.reduceToNat, List.size_toArray, tyF, MM, bu0, hne, e1, e2, e3, e4, e5, e6]
end Draws
end Go.AM

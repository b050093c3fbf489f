/-
  CONTRACTS of functions of the program, and what they compute, by content.
-/
import Derived.Test.YtbhaeaehgmpfhaaCB0
import Derived.Test.YtbhaeaehgmpfhaaM2Facts
import Derived.Shelf.SortM.Plain
import Derived.Shelf.SortM.SortNone
set_option linter.unusedVariables false
set_option linter.unusedSimpArgs false
set_option maxRecDepth 8000
namespace Go.AM
namespace Draws
open Go.Proofs
def MM : FuncId → List Bool := fun f => if f = 162 then [true] else if f = 87 then [true, false] else if f = 160 then [true, false] else if f = 161 then [true, false, false] else if f = 88 then [true, false] else if f = 163 then [true] else if f = 159 then [true] else if f = 89 then [true, false] else if f = 102 then [true, true] else if f = 85 then [true] else []
structure Src where
  b : List UInt8
  k : Nat
  s : Int
abbrev bsl (l : List UInt8) : AV := .sl 1 (l.map fun x => .u8 x.toNat)
abbrev Src.pt (s : Src) : AV := .pt 3 (.agg [bsl s.b, .i64 s.k, .i64 s.s])
abbrev Src.ok (s : Src) : Prop := s.b.length ≤ 4096 ∧ s.k ≤ s.b.length ∧ intOk s.s
instance : Thing UInt8 := ⟨⟩
def nxS (s : Int) : Int := IntKind.i64.wrap (IntKind.i64.wrap (s * 6364136223846793005) + 1442695040888963407)
def nxX (s : Int) : Int := bitsI .and .i64 (bitsI .xor .i64 (s.fdiv (2 ^ (min 33 64))) (s.fdiv (2 ^ (min 45 64)))) 255
theorem and255 (a : Int) : 0 ≤ bitsI .and .i64 a 255 ∧ bitsI .and .i64 a 255 ≤ 255 := by
  have h : (BitVec.ofInt 64 a &&& BitVec.ofInt 64 255).toNat ≤ 255 := by
    rw [BitVec.toNat_and]
    exact Nat.le_trans Nat.and_le_right (by decide)
  have e : bitsI .and .i64 a 255 = ((BitVec.ofInt 64 a &&& BitVec.ofInt 64 255).toNat : Int) := by
    show IntKind.i64.wrap ((BitVec.ofInt 64 a &&& BitVec.ofInt 64 255).toNat : Int) = _
    apply wrap64_id; omega
  rw [e]; omega
theorem wrap_ok (x : Int) : intOk (IntKind.i64.wrap x) := by
  unfold intOk IntKind.wrap
  simp only [IntKind.signed, IntKind.bits, Bool.true_and, decide_eq_true_eq, ge_iff_le, Nat.reduceSub, Int.reducePow, Nat.reducePow]
  constructor <;> split <;> omega
theorem nextByte (s : Src) (h : s.ok) : ∃ (s' : Src) (x : Int), SpecX Try.prog 162 [s.pt] [some s'.pt] (.i64 x) ∧ s'.ok ∧ 0 ≤ x ∧ x ≤ 255 := by
  have h1 := h.1
  have h2 := h.2.1
  have h3 := h.2.2
  have hb : IntKind.i64.bits = 64 := rfl
  have hw : intOk (nxS s.s) := wrap_ok _
  have ha := and255 (bitsI .xor .i64 ((nxS s.s).fdiv (2 ^ (min 33 64))) ((nxS s.s).fdiv (2 ^ (min 45 64))))
  have hn : nxS s.s = IntKind.i64.wrap (IntKind.i64.wrap (s.s * 6364136223846793005) + 1442695040888963407) := rfl
  by_cases hk : s.k < s.b.length
  case neg =>
    refine ⟨⟨s.b, s.k, nxS s.s⟩, nxX (nxS s.s), ?_, ⟨h1, h2, hw⟩, ha⟩
    unfold intOk at h3
    have hkl : s.k = s.b.length := by omega
    refine spec_of_awp (M := MM) (np := 1) (fz := false) mixed Try.func162 rfl rfl (by decide) rfl (Nat.le_refl _) (by decide +kernel) (.inl rfl) (by simp only [sigsOk_some, sigsOk_nil, and_true]; rfl) ?_
    simp -dsimp -implicitDefEqProofs (disch := first | omega | (simp only [lenr]; done) | (simp only [lenr]; omega)) only [↓amPre, amAll, ↓reduceIte, reduceCtorEq, Nat.reduceEqDiff, Nat.reduceBEq, Nat.reduceAdd, Nat.reduceLeDiff, Nat.reduceSub, Nat.reduceMul, Int.reduceToNat, List.size_toArray, tyF, MM, bu0, hb, hkl]
    exact ⟨rfl, rfl⟩
  have hu : (s.b.getD s.k default).toNat < 256 := (s.b.getD s.k default).toNat_lt
  have hv := and255 (nxX (nxS s.s) + ((s.b.getD s.k default).toNat : Int))
  have hx : 0 ≤ nxX (nxS s.s) ∧ nxX (nxS s.s) ≤ 255 := ha
  refine ⟨⟨s.b, s.k + 1, nxS s.s⟩, bitsI .and .i64 (nxX (nxS s.s) + ((s.b.getD s.k default).toNat : Int)) 255, ?_, ⟨h1, hk, hw⟩, hv⟩
  unfold intOk at h3
  have hX : bitsI .and .i64 (bitsI .xor .i64 ((nxS s.s).fdiv (2 ^ (min 33 64))) ((nxS s.s).fdiv (2 ^ (min 45 64)))) 255 = nxX (nxS s.s) := rfl
  have e1 : IntKind.i64.wrap ((s.b.getD s.k default).toNat : Int) = (s.b.getD s.k default).toNat := wrap64_id (by omega)
  have e2 : IntKind.i64.wrap (nxX (nxS s.s) + ((s.b.getD s.k default).toNat : Int)) = nxX (nxS s.s) + ((s.b.getD s.k default).toNat : Int) := wrap64_id (by omega)
  refine spec_of_awp (M := MM) (np := 1) (fz := false) mixed Try.func162 rfl rfl (by decide) rfl (Nat.le_refl _) (by decide +kernel) (.inl rfl) (by simp only [sigsOk_some, sigsOk_nil, and_true]; rfl) ?_
  simp -dsimp -implicitDefEqProofs (disch := first | omega | (simp only [lenr]; done) | (simp only [lenr]; omega)) only [↓amPre, amAll, ↓reduceIte, reduceCtorEq, Nat.reduceEqDiff, Nat.reduceBEq, Nat.reduceAdd, Nat.reduceLeDiff, Nat.reduceSub, Nat.reduceMul, Int.reduceToNat, List.size_toArray, tyF, MM, bu0, hb, ← hn, hX, e1, e2]
theorem below (s : Src) (n : Int) (h : s.ok) (hn : intOk n) : ∃ (s' : Src) (x : Int), SpecX Try.prog 87 [s.pt, .i64 n] [some s'.pt] (.i64 x) ∧ s'.ok ∧ 0 ≤ x ∧ (0 < n → x < n) ∧ (n ≤ 0 → x = 0) := by
  unfold intOk at hn
  by_cases n0 : n ≤ 0
  · refine ⟨s, 0, ?_, h, by omega, by omega, fun _ => rfl⟩
    refine spec_of_awp (M := MM) (np := 2) (fz := false) mixed Try.func87 rfl rfl (by decide) rfl (Nat.le_refl _) (by decide +kernel) (.inl rfl) (by simp only [sigsOk_some, sigsOk_nil, and_true]) ?_
    simp -dsimp -implicitDefEqProofs (disch := first | omega | (simp only [lenr]; done) | (simp only [lenr]; omega)) only [↓amPre, amAll, ↓reduceIte, reduceCtorEq, Nat.reduceEqDiff, Nat.reduceBEq, Nat.reduceAdd, Nat.reduceLeDiff, Nat.reduceSub, Nat.reduceMul, Int.reduceToNat, List.size_toArray, tyF, MM, bu0, lt_false n0]
  obtain ⟨s1, x1, q1, k1, b1⟩ := nextByte s h
  by_cases n1 : n ≤ 256
  · refine ⟨s1, x1.tmod n, ?_, k1, Int.tmod_nonneg _ b1.1, fun q => Int.tmod_lt_of_pos _ q, fun q => by omega⟩
    have hne : n ≠ 0 := by omega
    refine spec_of_awp (M := MM) (np := 2) (fz := false) mixed Try.func87 rfl rfl (by decide) rfl (Nat.le_refl _) (by decide +kernel) (.inl rfl) (by simp only [sigsOk_some, sigsOk_nil, and_true]; rfl) ?_
    simp -dsimp -implicitDefEqProofs (disch := first | omega | (simp only [lenr]; done) | (simp only [lenr]; omega)) only [↓amPre, amAll, ↓reduceIte, reduceCtorEq, Nat.reduceEqDiff, Nat.reduceBEq, Nat.reduceAdd, Nat.reduceLeDiff, Nat.reduceSub, Nat.reduceMul, Int.reduceToNat, List.size_toArray, tyF, MM, bu0, lt_true (Int.not_le.1 n0), lt_false n1]
    refine callX_of (q1) ?_
    simp -dsimp -implicitDefEqProofs (disch := first | omega | (simp only [lenr]; done) | (simp only [lenr]; omega)) only [↓amPre, amAll, ↓reduceIte, reduceCtorEq, Nat.reduceEqDiff, Nat.reduceBEq, Nat.reduceAdd, Nat.reduceLeDiff, Nat.reduceSub, Nat.reduceMul, Int.reduceToNat, List.size_toArray, tyF, MM, bu0, hne]
  obtain ⟨s2, x2, q2, k2, b2⟩ := nextByte s1 k1
  obtain ⟨s3, x3, q3, k3, b3⟩ := nextByte s2 k2
  obtain ⟨s4, x4, q4, k4, b4⟩ := nextByte s3 k3
  refine ⟨s4, (x1 * 16777216 + x2 * 65536 + x3 * 256 + x4).tmod n, ?_, k4, Int.tmod_nonneg _ (by omega), fun q => Int.tmod_lt_of_pos _ q, fun q => by omega⟩
  have hne : n ≠ 0 := by omega
  have e1 : IntKind.i64.wrap (x1 * 16777216) = x1 * 16777216 := wrap64_id (by omega)
  have e2 : IntKind.i64.wrap (x2 * 65536) = x2 * 65536 := wrap64_id (by omega)
  have e3 : IntKind.i64.wrap (x3 * 256) = x3 * 256 := wrap64_id (by omega)
  have e4 : IntKind.i64.wrap (x1 * 16777216 + x2 * 65536) = x1 * 16777216 + x2 * 65536 := wrap64_id (by omega)
  have e5 : IntKind.i64.wrap (x1 * 16777216 + x2 * 65536 + x3 * 256) = x1 * 16777216 + x2 * 65536 + x3 * 256 := wrap64_id (by omega)
  have e6 : IntKind.i64.wrap (x1 * 16777216 + x2 * 65536 + x3 * 256 + x4) = x1 * 16777216 + x2 * 65536 + x3 * 256 + x4 := wrap64_id (by omega)
  refine spec_of_awp (M := MM) (np := 2) (fz := false) mixed Try.func87 rfl rfl (by decide) rfl (Nat.le_refl _) (by decide +kernel) (.inl rfl) (by simp only [sigsOk_some, sigsOk_nil, and_true]; rfl) ?_
  simp -dsimp -implicitDefEqProofs (disch := first | omega | (simp only [lenr]; done) | (simp only [lenr]; omega)) only [↓amPre, amAll, ↓reduceIte, reduceCtorEq, Nat.reduceEqDiff, Nat.reduceBEq, Nat.reduceAdd, Nat.reduceLeDiff, Nat.reduceSub, Nat.reduceMul, Int.reduceToNat, List.size_toArray, tyF, MM, bu0, lt_true (Int.not_le.1 n0), lt_true (Int.not_le.1 n1)]
  refine callX_of (q1) ?_
  simp -dsimp -implicitDefEqProofs (disch := first | omega | (simp only [lenr]; done) | (simp only [lenr]; omega)) only [↓amPre, amAll, ↓reduceIte, reduceCtorEq, Nat.reduceEqDiff, Nat.reduceBEq, Nat.reduceAdd, Nat.reduceLeDiff, Nat.reduceSub, Nat.reduceMul, Int.reduceToNat, List.size_toArray, tyF, MM, bu0]
  refine callX_of (q2) ?_
  simp -dsimp -implicitDefEqProofs (disch := first | omega | (simp only [lenr]; done) | (simp only [lenr]; omega)) only [↓amPre, amAll, ↓reduceIte, reduceCtorEq, Nat.reduceEqDiff, Nat.reduceBEq, Nat.reduceAdd, Nat.reduceLeDiff, Nat.reduceSub, Nat.reduceMul, Int.reduceToNat, List.size_toArray, tyF, MM, bu0]
  refine callX_of (q3) ?_
  simp -dsimp -implicitDefEqProofs (disch := first | omega | (simp only [lenr]; done) | (simp only [lenr]; omega)) only [↓amPre, amAll, ↓reduceIte, reduceCtorEq, Nat.reduceEqDiff, Nat.reduceBEq, Nat.reduceAdd, Nat.reduceLeDiff, Nat.reduceSub, Nat.reduceMul, Int.reduceToNat, List.size_toArray, tyF, MM, bu0]
  refine callX_of (q4) ?_
  simp -dsimp -implicitDefEqProofs (disch := first | omega | (simp only [lenr]; done) | (simp only [lenr]; omega)) only [↓amPre, amAll, ↓reduceIte, reduceCtorEq, Nat.reduceEqDiff, Nat.reduceBEq, Nat.reduceAdd, Nat.reduceLeDiff, Nat.reduceSub, Nat.reduceMul, Int.reduceToNat, List.size_toArray, tyF, MM, bu0, hne, e1, e2, e3, e4, e5, e6]
end Draws
end Go.AM
set_option maxRecDepth 8000
namespace Go.AM
namespace Draws
open Go.Proofs
def sdK (l : List UInt8) : Nat → Int
  | 0 => 590033 + l.length
  | k + 1 => bitsI .and .i64 (sdK l k * 337 + (l.getD k default).toNat + 11) 1073741823
end Draws
end Go.AM
set_option maxRecDepth 8000
namespace Go.AM
namespace Draws
open Go.Proofs
noncomputable def bS (s : Src) (n : Int) : Src := open Classical in if h : s.ok ∧ intOk n then (below s n h.1 h.2).choose else s
noncomputable def bX (s : Src) (n : Int) : Int := open Classical in if h : s.ok ∧ intOk n then (below s n h.1 h.2).choose_spec.choose else 0
noncomputable def ordK (s : Src) : Nat → Src × List Int
  | 0 => (s, [])
  | k + 1 => (bS (ordK s k).1 (k + 1), (ordK s k).2.take (bX (ordK s k).1 (k + 1)).toNat ++ [(k : Int)] ++ (ordK s k).2.drop (bX (ordK s k).1 (k + 1)).toNat)
end Draws
end Go.AM
namespace Go.AM
/-! a permutation of the facelets as a piece state -/
def pAt (p : List Int) (b o i : Nat) : Int := p.getD (b + i * o) 0 - b
def ctL (p : List Int) (b o n : Nat) : List Int := (List.range n).map fun i => (pAt p b o i).tdiv o
def cbL (p : List Int) (b o n : Nat) : List Int := (List.range n).map fun i => (pAt p b o i).tmod o
def candT (ks : List Kind) (p : List Int) (k : Nat) : Twist :=
  ⟨ctL p (facets (ks.take k)).toNat (ks.getD k default).o.toNat (ks.getD k default).c.toNat, cbL p (facets (ks.take k)).toNat (ks.getD k default).o.toNat (ks.getD k default).c.toNat⟩
def candL (ks : List Kind) (p : List Int) (n : Nat) : List Twist := (List.range n).map (candT ks p)
def ptpOk (ks : List Kind) (p : List Int) : Prop := kindsOk ks ∧ (p.length : Int) = facets ks ∧ psOk ks (candL ks p ks.length) ∧ permOf ks (candL ks p ks.length) = p
instance (ks : List Kind) (p : List Int) : Decidable (ptpOk ks p) := by unfold ptpOk; infer_instance
def ptpR (ks : List Kind) (p : List Int) : List Twist := if ptpOk ks p then candL ks p ks.length else []
end Go.AM
set_option maxRecDepth 8000
namespace Go.AM
open Go.Proofs
def cpL (a b : List Int) (k : Nat) : List Int := (List.range k).map fun i => b.getD (a.getD i 0).toNat 0
theorem cpL_succ (a b : List Int) (k : Nat) : cpL a b (k + 1) = cpL a b k ++ [b.getD (a.getD k 0).toNat 0] := range_succ_map _ k
theorem cpL_len (a b : List Int) (k : Nat) : (cpL a b k).length = k := by simp [cpL]
theorem scompose (a b : List Int) (hl : a.length ≤ 20) (h : ∀ x ∈ a, 0 ≤ x ∧ x < b.length) : SpecAt Try.prog 106 [isl a, isl b] (itr (cpL a b a.length)) := by
  refine spec_of_awp (M := MM) (np := 2) (fz := false) mixed Try.func106 rfl rfl (by decide) rfl (Nat.le_refl _) (by decide +kernel) (.inl rfl) (by first | trivial | simp only [sigsOk_nil, sigsOk_some, sigsOk_none, sig_tr, sig_pt, sig_mt, sig_agg, List.map_cons, List.map_nil, sig1_tr, sig1_pt, sig1_v, and_self, true_and, List.length_map, List.length_set]) ?_
  simp -dsimp -implicitDefEqProofs (disch := first | omega | (simp only [lenr]; done) | (simp only [lenr]; omega)) only [↓amPre, amAll, ↓reduceIte, reduceCtorEq, Nat.reduceEqDiff, Nat.reduceBEq, Nat.reduceAdd, Nat.reduceLeDiff, Nat.reduceSub, Nat.reduceMul, Int.reduceToNat, List.size_toArray, tyF, MM, bu0, ipure, kpure, tpure, sspure, kset, tset, ksnoc, tsnoc, Kind.av, Twist.sl, Twist.tr, Invar.av, stsize, stget, sttl, stapp, stext, tsspure, Model.sl, Model.tr, vset, vsnoc, vpure]
  refine awp_loopR 7 23 (.tr 1 []) (by simp -dsimp -implicitDefEqProofs (disch := first | omega | (simp only [lenr]; done) | (simp only [lenr]; omega)) only [↓amPre, amAll, ↓reduceIte, reduceCtorEq, Nat.reduceEqDiff, Nat.reduceBEq, Nat.reduceAdd, Nat.reduceLeDiff, Nat.reduceSub, Nat.reduceMul, Int.reduceToNat, List.size_toArray, tyF, MM, bu0, ipure, kpure, tpure, sspure, kset, tset, ksnoc, tsnoc, Kind.av, Twist.sl, Twist.tr, Invar.av, stsize, stget, sttl, stapp, stext, tsspure, Model.sl, Model.tr, vset, vsnoc, vpure]) (by decide) (by decide) (by decide) (fun k st => k ≤ a.length ∧ st.fr 6 = .i64 k ∧ st.fr 0 = isl a ∧ st.fr 1 = isl b ∧ st.fr 5 = .ref 23 [] 1 0 k ∧ st.mem 23 = some (itr (cpL a b k))) (a.length) ?_ ?_
  · simp -dsimp -implicitDefEqProofs (disch := first | omega | (simp only [lenr]; done) | (simp only [lenr]; omega)) only [↓amPre, amAll, ↓reduceIte, reduceCtorEq, Nat.reduceEqDiff, Nat.reduceBEq, Nat.reduceAdd, Nat.reduceLeDiff, Nat.reduceSub, Nat.reduceMul, Int.reduceToNat, List.size_toArray, tyF, MM, bu0, ipure, kpure, tpure, sspure, kset, tset, ksnoc, tsnoc, Kind.av, Twist.sl, Twist.tr, Invar.av, stsize, stget, sttl, stapp, stext, tsspure, Model.sl, Model.tr, vset, vsnoc, vpure, ren_eq]
    simp [cpL]
  rintro k st _ ⟨hk, f6, f0, f1, f5, m23⟩
  have hcl := cpL_len a b k
  have hcs := cpL_succ a b k
  by_cases hlt : k < a.length
  · obtain ⟨x0, x1⟩ := h _ (mem_getD a k 0 hlt)
    obtain ⟨m, hm⟩ : ∃ m : Nat, a.getD k 0 = m := ⟨_, (Int.toNat_of_nonneg x0).symm⟩
    rw [hm, Int.toNat_natCast] at hcs
    have hmb : m < b.length := by omega
    simp -dsimp -implicitDefEqProofs (disch := first | omega | (simp only [lenr]; done) | (simp only [lenr]; omega)) only [↓amPre, amAll, ↓reduceIte, reduceCtorEq, Nat.reduceEqDiff, Nat.reduceBEq, Nat.reduceAdd, Nat.reduceLeDiff, Nat.reduceSub, Nat.reduceMul, Int.reduceToNat, List.size_toArray, tyF, MM, bu0, ipure, kpure, tpure, sspure, kset, tset, ksnoc, tsnoc, Kind.av, Twist.sl, Twist.tr, Invar.av, stsize, stget, sttl, stapp, stext, tsspure, Model.sl, Model.tr, vset, vsnoc, vpure, f6, f0, f1, f5, m23, hm, hcl, ← hcs]
    repeat' (first | omega | rfl | exact i64c (by omega) | exact vic (by omega) | apply And.intro)
  · have hke : k = a.length := by omega
    subst hke
    simp -dsimp -implicitDefEqProofs (disch := first | omega | (simp only [lenr]; done) | (simp only [lenr]; omega)) only [↓amPre, amAll, ↓reduceIte, reduceCtorEq, Nat.reduceEqDiff, Nat.reduceBEq, Nat.reduceAdd, Nat.reduceLeDiff, Nat.reduceSub, Nat.reduceMul, Int.reduceToNat, List.size_toArray, tyF, MM, bu0, ipure, kpure, tpure, sspure, kset, tset, ksnoc, tsnoc, Kind.av, Twist.sl, Twist.tr, Invar.av, stsize, stget, sttl, stapp, stext, tsspure, Model.sl, Model.tr, vset, vsnoc, vpure, f6, f0, f1, f5, m23, hcl]
def cpR (a b : List Int) : AV := if isPerm a ∧ isPerm b ∧ a.length = b.length then .tup [itr (cpL a b a.length), .bl true] else .tup [.tr 1 [], .bl false]
def ivL (p : List Int) : Nat → List Int
  | 0 => List.replicate p.length 0
  | k + 1 => (ivL p k).set (p.getD k 0).toNat (k : Int)
theorem ivL_len (p : List Int) : ∀ k, (ivL p k).length = p.length
  | 0 => by simp [ivL]
  | k + 1 => by rw [ivL, List.length_set, ivL_len p k]
theorem sinverse (p : List Int) (hp : isPerm p) : SpecAt Try.prog 109 [isl p] (itr (ivL p p.length)) := by
  have hl20 := hp.1.2
  refine spec_of_awp (M := MM) (np := 1) (fz := false) mixed Try.func109 rfl rfl (by decide) rfl (Nat.le_refl _) (by decide +kernel) (.inl rfl) (by first | trivial | simp only [sigsOk_nil, sigsOk_some, sigsOk_none, sig_tr, sig_pt, sig_mt, sig_agg, List.map_cons, List.map_nil, sig1_tr, sig1_pt, sig1_v, and_self, true_and, List.length_map, List.length_set]) ?_
  simp -dsimp -implicitDefEqProofs (disch := first | omega | (simp only [lenr]; done) | (simp only [lenr]; omega)) only [↓amPre, amAll, ↓reduceIte, reduceCtorEq, Nat.reduceEqDiff, Nat.reduceBEq, Nat.reduceAdd, Nat.reduceLeDiff, Nat.reduceSub, Nat.reduceMul, Int.reduceToNat, List.size_toArray, tyF, MM, bu0, ipure, kpure, tpure, sspure, kset, tset, ksnoc, tsnoc, Kind.av, Twist.sl, Twist.tr, Invar.av, stsize, stget, sttl, stapp, stext, tsspure, Model.sl, Model.tr, vset, vsnoc, vpure]
  refine awp_loop (fun k st => k ≤ p.length ∧ st.fr 4 = .i64 k ∧ st.fr 0 = isl p ∧ st.fr 3 = .ref 7 [] 1 0 p.length ∧ st.mem 7 = some (itr (ivL p k))) (p.length) ?_ ?_
  · simp -dsimp -implicitDefEqProofs (disch := first | omega | (simp only [lenr]; done) | (simp only [lenr]; omega)) only [↓amPre, amAll, ↓reduceIte, reduceCtorEq, Nat.reduceEqDiff, Nat.reduceBEq, Nat.reduceAdd, Nat.reduceLeDiff, Nat.reduceSub, Nat.reduceMul, Int.reduceToNat, List.size_toArray, tyF, MM, bu0, ipure, kpure, tpure, sspure, kset, tset, ksnoc, tsnoc, Kind.av, Twist.sl, Twist.tr, Invar.av, stsize, stget, sttl, stapp, stext, tsspure, Model.sl, Model.tr, vset, vsnoc, vpure]
    simp [ivL]
  rintro k st _ ⟨hk, f4, f0, f3, m7⟩
  have hil := ivL_len p k
  have his : ivL p (k + 1) = (ivL p k).set (p.getD k 0).toNat (k : Int) := rfl
  by_cases hlt : k < p.length
  · have hx := hp.2.1 _ (mem_getD p k 0 hlt)
    obtain ⟨m, hm⟩ : ∃ m : Nat, p.getD k 0 = m := ⟨_, (Int.toNat_of_nonneg hx.1).symm⟩
    rw [hm, Int.toNat_natCast] at his
    have hmb : m < p.length := by omega
    simp -dsimp -implicitDefEqProofs (disch := first | omega | (simp only [lenr]; done) | (simp only [lenr]; omega)) only [↓amPre, amAll, ↓reduceIte, reduceCtorEq, Nat.reduceEqDiff, Nat.reduceBEq, Nat.reduceAdd, Nat.reduceLeDiff, Nat.reduceSub, Nat.reduceMul, Int.reduceToNat, List.size_toArray, tyF, MM, bu0, ipure, kpure, tpure, sspure, kset, tset, ksnoc, tsnoc, Kind.av, Twist.sl, Twist.tr, Invar.av, stsize, stget, sttl, stapp, stext, tsspure, Model.sl, Model.tr, vset, vsnoc, vpure, f4, f0, f3, m7, hm, hil, ← his]
    repeat' (first | omega | rfl | exact i64c (by omega) | exact vic (by omega) | apply And.intro)
  · have hke : k = p.length := by omega
    subst hke
    simp -dsimp -implicitDefEqProofs (disch := first | omega | (simp only [lenr]; done) | (simp only [lenr]; omega)) only [↓amPre, amAll, ↓reduceIte, reduceCtorEq, Nat.reduceEqDiff, Nat.reduceBEq, Nat.reduceAdd, Nat.reduceLeDiff, Nat.reduceSub, Nat.reduceMul, Int.reduceToNat, List.size_toArray, tyF, MM, bu0, ipure, kpure, tpure, sspure, kset, tset, ksnoc, tsnoc, Kind.av, Twist.sl, Twist.tr, Invar.av, stsize, stget, sttl, stapp, stext, tsspure, Model.sl, Model.tr, vset, vsnoc, vpure, f4, f0, f3, m7, hil]
end Go.AM
namespace Go.AM
/-! the permutation of a composite, and of an inverse, of piece states -/
theorem isPerm_of {l : List Int} (h1 : 1 ≤ l.length ∧ l.length ≤ 20) (hr : ∀ i, i < l.length → 0 ≤ l.getD i 0 ∧ l.getD i 0 < l.length) (inj : ∀ i j, i < l.length → j < l.length → l.getD i 0 = l.getD j 0 → i = j) : isPerm l := by
  refine ⟨h1, fun x hx => ?_, ?_⟩
  · obtain ⟨i, hi, rfl⟩ := List.getElem_of_mem hx
    have := hr i hi
    rwa [getD_eq _ _ _ hi] at this
  · rw [List.Nodup, List.pairwise_iff_getElem]
    intro i j hi hj hij e
    have := inj i j hi hj (by rw [getD_eq _ _ _ hi, getD_eq _ _ _ hj]; exact e)
    omega
theorem compI_perm {p q : List Int} (hp : isPerm p) (hq : isPerm q) (hl : p.length = q.length) : isPerm (compI p q) := by
  refine isPerm_of (by rw [compI_len]; exact hp.1) (fun i hi => ?_) (fun i j hi hj e => ?_)
  · rw [compI_len] at hi ⊢
    rw [compI_get _ _ _ hi]
    have h1 := perm_get hp hi
    have h2 := perm_get hq (show (p.getD i 0).toNat < q.length by omega)
    omega
  · rw [compI_len] at hi hj
    rw [compI_get _ _ _ hi, compI_get _ _ _ hj] at e
    have h1 := perm_get hp hi
    have h2 := perm_get hp hj
    have := perm_inj hq (by omega) (by omega) e
    exact perm_inj hp hi hj (by omega)
theorem invI_get {p : List Int} (hp : isPerm p) {i : Nat} (hi : i < p.length) : (invI p).getD (p.getD i 0).toNat 0 = i := by
  rw [invI, scat_get _ p _ 0 hp (by simp) _ (Nat.le_refl _) i hi]
theorem invI_perm {p : List Int} (hp : isPerm p) : isPerm (invI p) := by
  refine isPerm_of (by rw [invI_len]; exact hp.1) (fun j hj => ?_) (fun j j' hj hj' e => ?_)
  · rw [invI_len] at hj ⊢
    obtain ⟨i, hi, rfl⟩ := perm_surj hp j hj
    rw [invI_get hp hi]; omega
  · rw [invI_len] at hj hj'
    obtain ⟨i, hi, rfl⟩ := perm_surj hp j hj
    obtain ⟨i', hi', rfl⟩ := perm_surj hp j' hj'
    rw [invI_get hp hi, invI_get hp hi'] at e
    have : i = i' := by omega
    rw [this]
def bas (ks : List Kind) (n : Nat) : Nat := (facets (ks.take n)).toNat
end Go.AM
namespace Go.AM
/-! the effect of a word; the points that it moves -/
def letP (mv : List (List Int)) (x : Int) : List Int := if 0 < x then mv.getD (x - 1).toNat default else invI (mv.getD (-x - 1).toNat default)
def effK (n : Int) (mv : List (List Int)) (w : List Int) : Nat → List Int
  | 0 => runI 0 n.toNat
  | k + 1 => compI (effK n mv w k) (letP mv (w.getD k 0))
theorem run_perm {n : Nat} (h1 : 1 ≤ n) (h2 : n ≤ 20) : isPerm (runI 0 n) := by
  refine isPerm_of (by rw [runI_len]; omega) (fun i hi => ?_) (fun i j hi hj e => ?_)
  · rw [runI_len] at hi ⊢
    rw [runI_get 0 n i hi]; omega
  · rw [runI_len] at hi hj
    rw [runI_get 0 n i hi, runI_get 0 n j hj] at e; omega
theorem letP_ok {n : Int} {mv : List (List Int)} (h : genOk n mv) {x : Int} (hx : letOk mv.length x) : moveOk n (letP mv x) := by
  unfold letOk at hx
  unfold letP
  split
  · exact h.2.2 _ (mem_getD mv _ default (by omega))
  · have := h.2.2 _ (mem_getD mv (-x - 1).toNat default (by omega))
    exact ⟨by rw [invI_len]; exact this.1, invI_perm this.2⟩
theorem effK_ok {n : Int} {mv : List (List Int)} {w : List Int} (h : genOk n mv) (hw : wordOk mv.length w) : ∀ k, k ≤ w.length → moveOk n (effK n mv w k)
  | 0, _ => ⟨by rw [effK, runI_len]; have := h.1; omega, run_perm (by have := h.1; omega) (by have := h.1; omega)⟩
  | k + 1, hk => by
    have ih := effK_ok h hw k (by omega)
    have hl := letP_ok h (hw.2 _ (mem_getD w k 0 (by omega)))
    exact ⟨by rw [effK, compI_len]; exact ih.1, compI_perm ih.2 hl.2 (by have := ih.1; have := hl.1; omega)⟩
def movL (p : List Int) (k : Nat) : List Int := ((List.range k).filter fun i => p.getD i 0 != (i : Int)).map fun (i : Nat) => (i : Int)
def imgL (p : List Int) (k : Nat) : List Int := ((List.range k).filter fun i => p.getD i 0 != (i : Int)).map fun i => p.getD i 0
end Go.AM
namespace Go.Proofs
open Go.Shelf
def Try.sortL_ren : Go.Shelf.Ren := ⟨fun | 5 => 183 | 8 => 207 | 7 => 206 | 19 => 224 | 20 => 225 | 10 => 215 | 11 => 216 | 12 => 217 | 13 => 218 | 14 => 219 | 15 => 220 | 16 => 221 | 17 => 222 | 18 => 223 | 30 => 230 | 31 => 231 | 32 => 232 | 33 => 233 | 34 => 234 | 35 => 235 | 40 => 238 | n => n, fun | 23 => 25 | 25 => 2 | 3 => 3 | 32 => 159 | 22 => 25 | 0 => 0 | 44 => 205 | 46 => 207 | 4 => 4 | 36 => 198 | 35 => 197 | 41 => 202 | 5 => 5 | 9 => 9 | 53 => 208 | 57 => 212 | 63 => 214 | 64 => 215 | n => n, fun | n => n⟩
end Go.Proofs
set_option maxRecDepth 8000
namespace Go.AM
open Go.Proofs
theorem sIdentity (n : Nat) (hn : n ≤ 20) : SpecAt Try.prog 111 [.i64 n] (itr (runI 0 n)) := by
  refine spec_of_awp (M := MM) (np := 1) (fz := false) mixed Try.func111 rfl rfl (by decide) rfl (Nat.le_refl _) (by decide +kernel) (.inl rfl) (by first | trivial | simp only [sigsOk_nil, sigsOk_some, sigsOk_none, sig_tr, sig_pt, sig_mt, sig_agg, List.map_cons, List.map_nil, sig1_tr, sig1_pt, sig1_v, and_self, true_and, List.length_map, List.length_set]) ?_
  simp -dsimp -implicitDefEqProofs (disch := first | omega | (simp only [lenr]; done) | (simp only [lenr]; omega)) only [↓amPre, amAll, ↓reduceIte, reduceCtorEq, Nat.reduceEqDiff, Nat.reduceBEq, Nat.reduceAdd, Nat.reduceLeDiff, Nat.reduceSub, Nat.reduceMul, Int.reduceToNat, List.size_toArray, tyF, MM, bu0, ipure, kpure, tpure, sspure, kset, tset, ksnoc, tsnoc, Kind.av, Twist.sl, Twist.tr, Invar.av, stsize, stget, sttl, stapp, stext, tsspure, Model.sl, Model.tr, vset, vsnoc, vpure, Puzz.sl, Puzz.tr]
  refine awp_loop (fun k st => k ≤ n ∧ st.fr 4 = .i64 k ∧ st.fr 0 = .i64 n ∧ ((k = 0 ∧ st.fr 3 = .ref 5 [] 1 0 0 ∧ st.mem 5 = some (.tr 1 [])) ∨ (0 < k ∧ st.fr 3 = .ref 14 [] 1 0 k ∧ st.mem 14 = some (itr (runI 0 k))))) (n) ?_ ?_
  · simp -dsimp -implicitDefEqProofs (disch := first | omega | (simp only [lenr]; done) | (simp only [lenr]; omega)) only [↓amPre, amAll, ↓reduceIte, reduceCtorEq, Nat.reduceEqDiff, Nat.reduceBEq, Nat.reduceAdd, Nat.reduceLeDiff, Nat.reduceSub, Nat.reduceMul, Int.reduceToNat, List.size_toArray, tyF, MM, bu0, ipure, kpure, tpure, sspure, kset, tset, ksnoc, tsnoc, Kind.av, Twist.sl, Twist.tr, Invar.av, stsize, stget, sttl, stapp, stext, tsspure, Model.sl, Model.tr, vset, vsnoc, vpure, Puzz.sl, Puzz.tr]
    simp
  rintro k st _ ⟨hk, f4, f0, ek⟩
  have hr := runI_succ 0 k
  rw [Int.zero_add] at hr
  have hl := runI_len 0 k
  have hl2 := runI_len 0 (k + 1)
  rcases ek with ⟨rfl, g3, g5⟩ | ⟨h0, g3, g5⟩
  · by_cases hlt : 0 < n
    · have h1 : runI 0 1 = [0] := rfl
      simp -dsimp -implicitDefEqProofs (disch := first | omega | (simp only [lenr]; done) | (simp only [lenr]; omega)) only [↓amPre, amAll, ↓reduceIte, reduceCtorEq, Nat.reduceEqDiff, Nat.reduceBEq, Nat.reduceAdd, Nat.reduceLeDiff, Nat.reduceSub, Nat.reduceMul, Int.reduceToNat, List.size_toArray, tyF, MM, bu0, ipure, kpure, tpure, sspure, kset, tset, ksnoc, tsnoc, Kind.av, Twist.sl, Twist.tr, Invar.av, stsize, stget, sttl, stapp, stext, tsspure, Model.sl, Model.tr, vset, vsnoc, vpure, Puzz.sl, Puzz.tr, f4, f0, g3, g5]
      repeat' (first | omega | rfl | exact i64c (by omega) | exact vic (by omega) | apply And.intro)
    · have hke : n = 0 := by omega
      subst hke
      simp -dsimp -implicitDefEqProofs (disch := first | omega | (simp only [lenr]; done) | (simp only [lenr]; omega)) only [↓amPre, amAll, ↓reduceIte, reduceCtorEq, Nat.reduceEqDiff, Nat.reduceBEq, Nat.reduceAdd, Nat.reduceLeDiff, Nat.reduceSub, Nat.reduceMul, Int.reduceToNat, List.size_toArray, tyF, MM, bu0, ipure, kpure, tpure, sspure, kset, tset, ksnoc, tsnoc, Kind.av, Twist.sl, Twist.tr, Invar.av, stsize, stget, sttl, stapp, stext, tsspure, Model.sl, Model.tr, vset, vsnoc, vpure, Puzz.sl, Puzz.tr, f4, f0, g3, g5]
      rfl
  · by_cases hlt : k < n
    · simp -dsimp -implicitDefEqProofs (disch := first | omega | (simp only [lenr]; done) | (simp only [lenr]; omega)) only [↓amPre, amAll, ↓reduceIte, reduceCtorEq, Nat.reduceEqDiff, Nat.reduceBEq, Nat.reduceAdd, Nat.reduceLeDiff, Nat.reduceSub, Nat.reduceMul, Int.reduceToNat, List.size_toArray, tyF, MM, bu0, ipure, kpure, tpure, sspure, kset, tset, ksnoc, tsnoc, Kind.av, Twist.sl, Twist.tr, Invar.av, stsize, stget, sttl, stapp, stext, tsspure, Model.sl, Model.tr, vset, vsnoc, vpure, Puzz.sl, Puzz.tr, f4, f0, g3, g5, hl, ← hr]
      repeat' (first | omega | rfl | exact i64c (by omega) | exact vic (by omega) | apply And.intro)
    · have hke : k = n := by omega
      subst hke
      simp -dsimp -implicitDefEqProofs (disch := first | omega | (simp only [lenr]; done) | (simp only [lenr]; omega)) only [↓amPre, amAll, ↓reduceIte, reduceCtorEq, Nat.reduceEqDiff, Nat.reduceBEq, Nat.reduceAdd, Nat.reduceLeDiff, Nat.reduceSub, Nat.reduceMul, Int.reduceToNat, List.size_toArray, tyF, MM, bu0, ipure, kpure, tpure, sspure, kset, tset, ksnoc, tsnoc, Kind.av, Twist.sl, Twist.tr, Invar.av, stsize, stget, sttl, stapp, stext, tsspure, Model.sl, Model.tr, vset, vsnoc, vpure, Puzz.sl, Puzz.tr, f4, f0, g3, g5, hl]
theorem ivL_invI (p : List Int) : ivL p p.length = invI p := by
  have h : ∀ k, ivL p k = scat (List.replicate p.length 0) p (fun i => (i : Int)) k := by
    intro k
    induction k with
    | zero => rfl
    | succ k ih => rw [ivL, scat, ih]
  exact h _
end Go.AM
set_option maxRecDepth 8000
namespace Go.AM
open Go.Proofs
theorem iLetter (n : Int) (mv : List (List Int)) (x : Int) (hp : genOk n mv) (hx : letOk mv.length x) : SpecAt Try.prog 197 [ssl mv, .i64 x] (isl (letP mv x)) ∨ SpecAt Try.prog 197 [ssl mv, .i64 x] (itr (letP mv x)) := by
  have hlx : letP mv x = _ := rfl
  conv at hlx => rhs; rw [letP]
  unfold letOk at hx
  have hm8 := hp.2.1
  by_cases c0 : 0 < x
  · obtain ⟨m, hm1⟩ : ∃ m : Nat, x - 1 = m := ⟨_, (Int.toNat_of_nonneg (by omega)).symm⟩
    rw [if_pos c0, hm1, Int.toNat_natCast] at hlx
    have hmlt : m < mv.length := by omega
    rw [hlx]
    left
    refine spec_of_awp (M := MM) (np := 2) (fz := true) mixed Try.func197 rfl rfl (by decide) rfl (Nat.le_refl _) (by decide +kernel) (.inr ⟨rfl, rfl⟩) trivial ?_
    simp -dsimp -implicitDefEqProofs (disch := first | omega | (simp only [lenr]; done) | (simp only [lenr]; omega)) only [↓amPre, amAll, ↓reduceIte, reduceCtorEq, Nat.reduceEqDiff, Nat.reduceBEq, Nat.reduceAdd, Nat.reduceLeDiff, Nat.reduceSub, Nat.reduceMul, Int.reduceToNat, List.size_toArray, tyF, MM, bu0, ipure, kpure, tpure, sspure, kset, tset, ksnoc, tsnoc, Kind.av, Twist.sl, Twist.tr, Invar.av, stsize, stget, sttl, stapp, stext, tsspure, Model.sl, Model.tr, vset, vsnoc, vpure, Puzz.sl, Puzz.tr, lt_true c0, hm1]
  · obtain ⟨m, hm1⟩ : ∃ m : Nat, -x - 1 = m := ⟨_, (Int.toNat_of_nonneg (by omega)).symm⟩
    rw [if_neg c0, hm1, Int.toNat_natCast] at hlx
    have hmlt : m < mv.length := by omega
    have hw : IntKind.i64.wrap (0 - x) = 0 - x := wrap64_id (by omega)
    have hm2 : 0 - x - 1 = m := by omega
    have hq := hp.2.2 _ (mem_getD mv m default hmlt)
    rw [hlx]
    generalize hM : mv.getD m default = M at hq
    have hM20 := hq.2.1.2
    have hv := iinverse M (by omega) hq.2.2.1
    right
    refine spec_of_awp (M := MM) (np := 2) (fz := false) mixed Try.func197 rfl rfl (by decide) rfl (Nat.le_refl _) (by decide +kernel) (.inl rfl) (by first | trivial | simp only [sigsOk_nil, sigsOk_some, sigsOk_none, sig_tr, sig_pt, sig_mt, sig_agg, List.map_cons, List.map_nil, sig1_tr, sig1_pt, sig1_v, and_self, true_and, List.length_map, List.length_set]) ?_
    simp -dsimp -implicitDefEqProofs (disch := first | omega | (simp only [lenr]; done) | (simp only [lenr]; omega)) only [↓amPre, amAll, ↓reduceIte, reduceCtorEq, Nat.reduceEqDiff, Nat.reduceBEq, Nat.reduceAdd, Nat.reduceLeDiff, Nat.reduceSub, Nat.reduceMul, Int.reduceToNat, List.size_toArray, tyF, MM, bu0, ipure, kpure, tpure, sspure, kset, tset, ksnoc, tsnoc, Kind.av, Twist.sl, Twist.tr, Invar.av, stsize, stget, sttl, stapp, stext, tsspure, Model.sl, Model.tr, vset, vsnoc, vpure, Puzz.sl, Puzz.tr, lt_false (Int.not_lt.1 c0), hw, hm2, hM]
    refine callP_of (hv) ?_
    simp -dsimp -implicitDefEqProofs (disch := first | omega | (simp only [lenr]; done) | (simp only [lenr]; omega)) only [↓amPre, amAll, ↓reduceIte, reduceCtorEq, Nat.reduceEqDiff, Nat.reduceBEq, Nat.reduceAdd, Nat.reduceLeDiff, Nat.reduceSub, Nat.reduceMul, Int.reduceToNat, List.size_toArray, tyF, MM, bu0, ipure, kpure, tpure, sspure, kset, tset, ksnoc, tsnoc, Kind.av, Twist.sl, Twist.tr, Invar.av, stsize, stget, sttl, stapp, stext, tsspure, Model.sl, Model.tr, vset, vsnoc, vpure, Puzz.sl, Puzz.tr, hM]
theorem iEvaluate (n : Nat) (mv : List (List Int)) (w : List Int) (hp : genOk n mv) (hw : wordOk mv.length w) : SpecAt Try.prog 170 [.i64 n, ssl mv, isl w] (itr (effK n mv w w.length)) := by
  have hn := hp.1
  have h1 := iidentity n (by omega)
  have hw2 := hw.1
  have hr := runI_len 0 n
  refine spec_of_awp (M := MM) (np := 3) (fz := false) mixed Try.func170 rfl rfl (by decide) rfl (Nat.le_refl _) (by decide +kernel) (.inl rfl) (by first | trivial | simp only [sigsOk_nil, sigsOk_some, sigsOk_none, sig_tr, sig_pt, sig_mt, sig_agg, List.map_cons, List.map_nil, sig1_tr, sig1_pt, sig1_v, and_self, true_and, List.length_map, List.length_set]) ?_
  simp -dsimp -implicitDefEqProofs (disch := first | omega | (simp only [lenr]; done) | (simp only [lenr]; omega)) only [↓amPre, amAll, ↓reduceIte, reduceCtorEq, Nat.reduceEqDiff, Nat.reduceBEq, Nat.reduceAdd, Nat.reduceLeDiff, Nat.reduceSub, Nat.reduceMul, Int.reduceToNat, List.size_toArray, tyF, MM, bu0, ipure, kpure, tpure, sspure, kset, tset, ksnoc, tsnoc, Kind.av, Twist.sl, Twist.tr, Invar.av, stsize, stget, sttl, stapp, stext, tsspure, Model.sl, Model.tr, vset, vsnoc, vpure, Puzz.sl, Puzz.tr]
  refine callP_of (h1) ?_
  simp -dsimp -implicitDefEqProofs (disch := first | omega | (simp only [lenr]; done) | (simp only [lenr]; omega)) only [↓amPre, amAll, ↓reduceIte, reduceCtorEq, Nat.reduceEqDiff, Nat.reduceBEq, Nat.reduceAdd, Nat.reduceLeDiff, Nat.reduceSub, Nat.reduceMul, Int.reduceToNat, List.size_toArray, tyF, MM, bu0, ipure, kpure, tpure, sspure, kset, tset, ksnoc, tsnoc, Kind.av, Twist.sl, Twist.tr, Invar.av, stsize, stget, sttl, stapp, stext, tsspure, Model.sl, Model.tr, vset, vsnoc, vpure, Puzz.sl, Puzz.tr, hr]
  refine awp_loopR 11 22 (itr (runI 0 n)) (by simp -dsimp -implicitDefEqProofs (disch := first | omega | (simp only [lenr]; done) | (simp only [lenr]; omega)) only [↓amPre, amAll, ↓reduceIte, reduceCtorEq, Nat.reduceEqDiff, Nat.reduceBEq, Nat.reduceAdd, Nat.reduceLeDiff, Nat.reduceSub, Nat.reduceMul, Int.reduceToNat, List.size_toArray, tyF, MM, bu0, ipure, kpure, tpure, sspure, kset, tset, ksnoc, tsnoc, Kind.av, Twist.sl, Twist.tr, Invar.av, stsize, stget, sttl, stapp, stext, tsspure, Model.sl, Model.tr, vset, vsnoc, vpure, Puzz.sl, Puzz.tr]) (by decide) (by decide) (by decide) (fun k st => k ≤ w.length ∧ st.fr 14 = .i64 k ∧ st.fr 13 = .i64 w.length ∧ st.fr 12 = isl w ∧ st.fr 7 = .ref 22 [] 1 0 (effK n mv w k).length ∧ st.fr 1 = ssl mv ∧ st.mem 22 = some (itr (effK n mv w k))) (w.length) ?_ ?_
  · simp -dsimp -implicitDefEqProofs (disch := first | omega | (simp only [lenr]; done) | (simp only [lenr]; omega)) only [↓amPre, amAll, ↓reduceIte, reduceCtorEq, Nat.reduceEqDiff, Nat.reduceBEq, Nat.reduceAdd, Nat.reduceLeDiff, Nat.reduceSub, Nat.reduceMul, Int.reduceToNat, List.size_toArray, tyF, MM, bu0, ipure, kpure, tpure, sspure, kset, tset, ksnoc, tsnoc, Kind.av, Twist.sl, Twist.tr, Invar.av, stsize, stget, sttl, stapp, stext, tsspure, Model.sl, Model.tr, vset, vsnoc, vpure, Puzz.sl, Puzz.tr, ren_eq, effK]
    exact ⟨Nat.zero_le _, rfl, by simp [runI_len]⟩
  rintro k st _ ⟨hk, f14, f13, f12, f7, f1, m22⟩
  have hk1 := effK_ok hp hw k hk
  have hef : effK n mv w (k + 1) = compI (effK n mv w k) (letP mv (w.getD k 0)) := rfl
  by_cases hlt : k < w.length
  · have hx := hw.2 _ (mem_getD w k 0 hlt)
    have hlo := letP_ok hp hx
    have hl : (effK n mv w (k + 1)).length = (effK n mv w k).length := by rw [hef, compI_len]
    have hl20 := hk1.2.1.2
    have hq := icompose (effK n mv w k) (letP mv (w.getD k 0)) (by omega) (fun y hy => by have := hk1.2.2.1 y hy; have := hk1.1; have := hlo.1; omega)
    rw [← hef] at hq
    rcases iLetter n mv (w.getD k 0) hp hx with ha | ha
    · simp -dsimp -implicitDefEqProofs (disch := first | omega | (simp only [lenr]; done) | (simp only [lenr]; omega)) only [↓amPre, amAll, ↓reduceIte, reduceCtorEq, Nat.reduceEqDiff, Nat.reduceBEq, Nat.reduceAdd, Nat.reduceLeDiff, Nat.reduceSub, Nat.reduceMul, Int.reduceToNat, List.size_toArray, tyF, MM, bu0, ipure, kpure, tpure, sspure, kset, tset, ksnoc, tsnoc, Kind.av, Twist.sl, Twist.tr, Invar.av, stsize, stget, sttl, stapp, stext, tsspure, Model.sl, Model.tr, vset, vsnoc, vpure, Puzz.sl, Puzz.tr, f14, f13, f12, f7, f1, m22]
      refine callP_of (ha) ?_
      simp -dsimp -implicitDefEqProofs (disch := first | omega | (simp only [lenr]; done) | (simp only [lenr]; omega)) only [↓amPre, amAll, ↓reduceIte, reduceCtorEq, Nat.reduceEqDiff, Nat.reduceBEq, Nat.reduceAdd, Nat.reduceLeDiff, Nat.reduceSub, Nat.reduceMul, Int.reduceToNat, List.size_toArray, tyF, MM, bu0, ipure, kpure, tpure, sspure, kset, tset, ksnoc, tsnoc, Kind.av, Twist.sl, Twist.tr, Invar.av, stsize, stget, sttl, stapp, stext, tsspure, Model.sl, Model.tr, vset, vsnoc, vpure, Puzz.sl, Puzz.tr, f14, f13, f12, f7, f1, m22]
      refine callP_of (hq) ?_
      simp -dsimp -implicitDefEqProofs (disch := first | omega | (simp only [lenr]; done) | (simp only [lenr]; omega)) only [↓amPre, amAll, ↓reduceIte, reduceCtorEq, Nat.reduceEqDiff, Nat.reduceBEq, Nat.reduceAdd, Nat.reduceLeDiff, Nat.reduceSub, Nat.reduceMul, Int.reduceToNat, List.size_toArray, tyF, MM, bu0, ipure, kpure, tpure, sspure, kset, tset, ksnoc, tsnoc, Kind.av, Twist.sl, Twist.tr, Invar.av, stsize, stget, sttl, stapp, stext, tsspure, Model.sl, Model.tr, vset, vsnoc, vpure, Puzz.sl, Puzz.tr, f14, f13, f12, f7, f1, m22, hl]
      repeat' (first | omega | rfl | exact i64c (by omega) | exact vic (by omega) | apply And.intro)
    · simp -dsimp -implicitDefEqProofs (disch := first | omega | (simp only [lenr]; done) | (simp only [lenr]; omega)) only [↓amPre, amAll, ↓reduceIte, reduceCtorEq, Nat.reduceEqDiff, Nat.reduceBEq, Nat.reduceAdd, Nat.reduceLeDiff, Nat.reduceSub, Nat.reduceMul, Int.reduceToNat, List.size_toArray, tyF, MM, bu0, ipure, kpure, tpure, sspure, kset, tset, ksnoc, tsnoc, Kind.av, Twist.sl, Twist.tr, Invar.av, stsize, stget, sttl, stapp, stext, tsspure, Model.sl, Model.tr, vset, vsnoc, vpure, Puzz.sl, Puzz.tr, f14, f13, f12, f7, f1, m22]
      refine callP_of (ha) ?_
      simp -dsimp -implicitDefEqProofs (disch := first | omega | (simp only [lenr]; done) | (simp only [lenr]; omega)) only [↓amPre, amAll, ↓reduceIte, reduceCtorEq, Nat.reduceEqDiff, Nat.reduceBEq, Nat.reduceAdd, Nat.reduceLeDiff, Nat.reduceSub, Nat.reduceMul, Int.reduceToNat, List.size_toArray, tyF, MM, bu0, ipure, kpure, tpure, sspure, kset, tset, ksnoc, tsnoc, Kind.av, Twist.sl, Twist.tr, Invar.av, stsize, stget, sttl, stapp, stext, tsspure, Model.sl, Model.tr, vset, vsnoc, vpure, Puzz.sl, Puzz.tr, f14, f13, f12, f7, f1, m22]
      refine callP_of (hq) ?_
      simp -dsimp -implicitDefEqProofs (disch := first | omega | (simp only [lenr]; done) | (simp only [lenr]; omega)) only [↓amPre, amAll, ↓reduceIte, reduceCtorEq, Nat.reduceEqDiff, Nat.reduceBEq, Nat.reduceAdd, Nat.reduceLeDiff, Nat.reduceSub, Nat.reduceMul, Int.reduceToNat, List.size_toArray, tyF, MM, bu0, ipure, kpure, tpure, sspure, kset, tset, ksnoc, tsnoc, Kind.av, Twist.sl, Twist.tr, Invar.av, stsize, stget, sttl, stapp, stext, tsspure, Model.sl, Model.tr, vset, vsnoc, vpure, Puzz.sl, Puzz.tr, f14, f13, f12, f7, f1, m22, hl]
      repeat' (first | omega | rfl | exact i64c (by omega) | exact vic (by omega) | apply And.intro)
  · have hke : k = w.length := by omega
    subst hke
    simp -dsimp -implicitDefEqProofs (disch := first | omega | (simp only [lenr]; done) | (simp only [lenr]; omega)) only [↓amPre, amAll, ↓reduceIte, reduceCtorEq, Nat.reduceEqDiff, Nat.reduceBEq, Nat.reduceAdd, Nat.reduceLeDiff, Nat.reduceSub, Nat.reduceMul, Int.reduceToNat, List.size_toArray, tyF, MM, bu0, ipure, kpure, tpure, sspure, kset, tset, ksnoc, tsnoc, Kind.av, Twist.sl, Twist.tr, Invar.av, stsize, stget, sttl, stapp, stext, tsspure, Model.sl, Model.tr, vset, vsnoc, vpure, Puzz.sl, Puzz.tr, f14, f13, f12, f7, f1, m22]
theorem iEffect (p : Puzz) (w : List Int) (hp : genOk p.n p.mv) (hw : wordOk p.mv.length w) : SpecAt Try.prog 112 [p.sl, isl w] (itr (effK p.n p.mv w w.length)) := by
  obtain ⟨pn, nm, mv⟩ := p
  have hn := hp.1
  simp only at hn
  obtain ⟨n, rfl⟩ : ∃ n : Nat, pn = n := ⟨pn.toNat, by omega⟩
  have h1 := iEvaluate n mv w hp hw
  refine spec_of_awp (M := MM) (np := 2) (fz := false) mixed Try.func112 rfl rfl (by decide) rfl (Nat.le_refl _) (by decide +kernel) (.inl rfl) (by first | trivial | simp only [sigsOk_nil, sigsOk_some, sigsOk_none, sig_tr, sig_pt, sig_mt, sig_agg, List.map_cons, List.map_nil, sig1_tr, sig1_pt, sig1_v, and_self, true_and, List.length_map, List.length_set]) ?_
  simp -dsimp -implicitDefEqProofs (disch := first | omega | (simp only [lenr]; done) | (simp only [lenr]; omega)) only [↓amPre, amAll, ↓reduceIte, reduceCtorEq, Nat.reduceEqDiff, Nat.reduceBEq, Nat.reduceAdd, Nat.reduceLeDiff, Nat.reduceSub, Nat.reduceMul, Int.reduceToNat, List.size_toArray, tyF, MM, bu0, ipure, kpure, tpure, sspure, kset, tset, ksnoc, tsnoc, Kind.av, Twist.sl, Twist.tr, Invar.av, stsize, stget, sttl, stapp, stext, tsspure, Model.sl, Model.tr, vset, vsnoc, vpure, Puzz.sl, Puzz.tr]
  refine callP_of (h1) ?_
  simp -dsimp -implicitDefEqProofs (disch := first | omega | (simp only [lenr]; done) | (simp only [lenr]; omega)) only [↓amPre, amAll, ↓reduceIte, reduceCtorEq, Nat.reduceEqDiff, Nat.reduceBEq, Nat.reduceAdd, Nat.reduceLeDiff, Nat.reduceSub, Nat.reduceMul, Int.reduceToNat, List.size_toArray, tyF, MM, bu0, ipure, kpure, tpure, sspure, kset, tset, ksnoc, tsnoc, Kind.av, Twist.sl, Twist.tr, Invar.av, stsize, stget, sttl, stapp, stext, tsspure, Model.sl, Model.tr, vset, vsnoc, vpure, Puzz.sl, Puzz.tr]
end Go.AM
set_option maxRecDepth 8000
namespace Go.AM
open Go.Proofs
def supR (p : Puzz) (w : List Int) : List Int := if puzzOk p ∧ wordOk p.mv.length w then movL (effK p.n p.mv w w.length) p.n.toNat else []
theorem cnts_sizeI : ∀ l : List (List Int), cnts l + l.length = sizeI l
  | [] => rfl
  | a :: r => by have := cnts_sizeI r; simp only [cnts, sizeI, List.length_cons, cnt_ints]; omega
theorem markInt64SS (l : List (List Int)) (k : Int) (h0 : 0 ≤ k) (h1 : k + cnts l ≤ 1099511627776) (hl : smallSS l) : SpecX Try.prog 45 [sst l, .i64 k] [some (sst (mks k l))] (.i64 (k + cnts l)) := by
  have hl0 := hl.1
  refine spec_of_awp (M := MM) (np := 2) (fz := false) mixed Try.func45 rfl rfl (by decide) rfl (Nat.le_refl _) (by decide +kernel) (.inl rfl) (by simp only [sigsOk_some, sigsOk_nil, sig_tr, List.length_map, mks_len, and_self]) ?_
  simp -dsimp -implicitDefEqProofs (disch := first | omega | (simp only [lenr]; done) | (simp only [lenr]; omega)) only [↓amPre, amAll, ↓reduceIte, reduceCtorEq, Nat.reduceEqDiff, Nat.reduceBEq, Nat.reduceAdd, Nat.reduceLeDiff, Nat.reduceSub, Nat.reduceMul, Int.reduceToNat, List.size_toArray, tyF, MM, bu0, ipure, kpure, tpure, sspure, kset, tset, ksnoc, tsnoc, Kind.av, Twist.sl, Twist.tr, Invar.av, stsize, stget, sttl, stapp, stext, tsspure, Model.sl, Model.tr, vset, vsnoc, vpure, Puzz.sl, Puzz.tr]
  have hr := mks_len k l
  refine awp_loop (fun j st => j ≤ l.length ∧ st.fr 5 = .i64 j ∧ st.fr 1 = .i64 (k + cnts (l.take j)) ∧ st.fr 0 = .ref 0 [] 1 0 l.length ∧ st.mem 0 = some (sst (mixL (mks k l) l j))) (l.length) ?_ ?_
  · simp -dsimp -implicitDefEqProofs (disch := first | omega | (simp only [lenr]; done) | (simp only [lenr]; omega)) only [↓amPre, amAll, ↓reduceIte, reduceCtorEq, Nat.reduceEqDiff, Nat.reduceBEq, Nat.reduceAdd, Nat.reduceLeDiff, Nat.reduceSub, Nat.reduceMul, Int.reduceToNat, List.size_toArray, tyF, MM, bu0, ipure, kpure, tpure, sspure, kset, tset, ksnoc, tsnoc, Kind.av, Twist.sl, Twist.tr, Invar.av, stsize, stget, sttl, stapp, stext, tsspure, Model.sl, Model.tr, vset, vsnoc, vpure, Puzz.sl, Puzz.tr, mixL_zero]
    simp [cnts]
  rintro j st _ ⟨hj, f5, f1, f0, m0⟩
  have hml := mixL_len (mks k l) l j hr
  by_cases hlt : j < l.length
  · have hs := mixL_set (mks k l) l j default hr hlt
    have hg := mixL_get (mks k l) l j default hr hlt
    rw [mks_get _ _ _ hlt, mk_ints] at hs
    have ct := cnts_take l j hlt
    have cl := cnts_le1 l j hlt
    rw [cnt_ints] at ct cl
    simp -dsimp -implicitDefEqProofs (disch := first | omega | (simp only [lenr]; done) | (simp only [lenr]; omega)) only [↓amPre, amAll, ↓reduceIte, reduceCtorEq, Nat.reduceEqDiff, Nat.reduceBEq, Nat.reduceAdd, Nat.reduceLeDiff, Nat.reduceSub, Nat.reduceMul, Int.reduceToNat, List.size_toArray, tyF, MM, bu0, ipure, kpure, tpure, sspure, kset, tset, ksnoc, tsnoc, Kind.av, Twist.sl, Twist.tr, Invar.av, stsize, stget, sttl, stapp, stext, tsspure, Model.sl, Model.tr, vset, vsnoc, vpure, Puzz.sl, Puzz.tr, f5, f1, f0, m0, hml, hg]
    refine callX_of (markInt64S (l.getD j default) _ (by omega) (by omega) (by omega)) ?_
    simp -dsimp -implicitDefEqProofs (disch := first | omega | (simp only [lenr]; done) | (simp only [lenr]; omega)) only [↓amPre, amAll, ↓reduceIte, reduceCtorEq, Nat.reduceEqDiff, Nat.reduceBEq, Nat.reduceAdd, Nat.reduceLeDiff, Nat.reduceSub, Nat.reduceMul, Int.reduceToNat, List.size_toArray, tyF, MM, bu0, ipure, kpure, tpure, sspure, kset, tset, ksnoc, tsnoc, Kind.av, Twist.sl, Twist.tr, Invar.av, stsize, stget, sttl, stapp, stext, tsspure, Model.sl, Model.tr, vset, vsnoc, vpure, Puzz.sl, Puzz.tr, f5, f1, f0, m0, hml, hg, hs, runI_len]
    repeat' (first | omega | rfl | exact i64c (by omega) | exact vic (by omega) | apply And.intro)
  · have hj' : j = l.length := by omega
    subst hj'
    have := mixL_all (mks k l) l l.length (by omega) (by omega)
    simp -dsimp -implicitDefEqProofs (disch := first | omega | (simp only [lenr]; done) | (simp only [lenr]; omega)) only [↓amPre, amAll, ↓reduceIte, reduceCtorEq, Nat.reduceEqDiff, Nat.reduceBEq, Nat.reduceAdd, Nat.reduceLeDiff, Nat.reduceSub, Nat.reduceMul, Int.reduceToNat, List.size_toArray, tyF, MM, bu0, ipure, kpure, tpure, sspure, kset, tset, ksnoc, tsnoc, Kind.av, Twist.sl, Twist.tr, Invar.av, stsize, stget, sttl, stapp, stext, tsspure, Model.sl, Model.tr, vset, vsnoc, vpure, Puzz.sl, Puzz.tr, f5, f1, f0, m0, hml, this, List.take_length]
theorem markPuzzle (p : Puzz) (k : Int) (h0 : 0 ≤ k) (h1 : k + cnts p.mv ≤ 1099511627776) (h : smallP p) : SpecX Try.prog 24 [p.tr, .i64 k] [] (.i64 (k + cnts p.mv)) := by
  refine spec_of_awp (M := MM) (np := 2) (fz := false) mixed Try.func24 rfl rfl (by decide) rfl (Nat.le_refl _) (by decide +kernel) (.inl rfl) (by first | trivial | simp only [sigsOk_nil, sigsOk_some, sigsOk_none, sig_tr, sig_pt, sig_mt, sig_agg, List.map_cons, List.map_nil, sig1_tr, sig1_pt, sig1_v, and_self, true_and, List.length_map, List.length_set]) ?_
  simp -dsimp -implicitDefEqProofs (disch := first | omega | (simp only [lenr]; done) | (simp only [lenr]; omega)) only [↓amPre, amAll, ↓reduceIte, reduceCtorEq, Nat.reduceEqDiff, Nat.reduceBEq, Nat.reduceAdd, Nat.reduceLeDiff, Nat.reduceSub, Nat.reduceMul, Int.reduceToNat, List.size_toArray, tyF, MM, bu0, ipure, kpure, tpure, sspure, kset, tset, ksnoc, tsnoc, Kind.av, Twist.sl, Twist.tr, Invar.av, stsize, stget, sttl, stapp, stext, tsspure, Model.sl, Model.tr, vset, vsnoc, vpure, Puzz.sl, Puzz.tr]
  refine callX_of (markInt64SS p.mv _ h0 h1 h.2.2) ?_
  simp -dsimp -implicitDefEqProofs (disch := first | omega | (simp only [lenr]; done) | (simp only [lenr]; omega)) only [↓amPre, amAll, ↓reduceIte, reduceCtorEq, Nat.reduceEqDiff, Nat.reduceBEq, Nat.reduceAdd, Nat.reduceLeDiff, Nat.reduceSub, Nat.reduceMul, Int.reduceToNat, List.size_toArray, tyF, MM, bu0, ipure, kpure, tpure, sspure, kset, tset, ksnoc, tsnoc, Kind.av, Twist.sl, Twist.tr, Invar.av, stsize, stget, sttl, stapp, stext, tsspure, Model.sl, Model.tr, vset, vsnoc, vpure, Puzz.sl, Puzz.tr, mks_len]
end Go.AM
set_option maxRecDepth 8000
namespace Go.AM
open Go.Proofs
def canScr (p : Puzz) (x c : Int) : Prop := puzzOk p ∧ within x 0 2147483646 = true ∧ within c 0 200 = true
instance (p : Puzz) (x c : Int) : Decidable (canScr p x c) := by unfold canScr; infer_instance
def scrR (p : Puzz) (x c : Int) : List Int := if canScr p x c then scrW p.mv.length x c.toNat else []
theorem scrR_len (p : Puzz) (x c : Int) : (scrR p x c).length ≤ 200 := by
  unfold scrR
  split
  · rename_i h
    rw [scrW_len]
    have := within_iff.1 h.2.2
    omega
  · simp
theorem isSeedI (x : Int) : SpecAt Try.prog 115 [.i64 x] (.bl (within x 0 2147483646)) := by
  refine spec_of_awp (M := MM) (np := 1) (fz := true) mixed Try.func115 rfl rfl (by decide) rfl (Nat.le_refl _) (by decide +kernel) (.inr ⟨rfl, rfl⟩) trivial ?_
  simp -dsimp -implicitDefEqProofs (disch := first | omega | (simp only [lenr]; done) | (simp only [lenr]; omega)) only [↓amPre, amAll, ↓reduceIte, reduceCtorEq, Nat.reduceEqDiff, Nat.reduceBEq, Nat.reduceAdd, Nat.reduceLeDiff, Nat.reduceSub, Nat.reduceMul, Int.reduceToNat, List.size_toArray, tyF, MM, bu0, ipure, kpure, tpure, sspure, kset, tset, ksnoc, tsnoc, Kind.av, Twist.sl, Twist.tr, Invar.av, stsize, stget, sttl, stapp, stext, tsspure, Model.sl, Model.tr, vset, vsnoc, vpure, Puzz.sl, Puzz.tr]
  refine callP_of (iwithin _ _ _) ?_
  simp -dsimp -implicitDefEqProofs (disch := first | omega | (simp only [lenr]; done) | (simp only [lenr]; omega)) only [↓amPre, amAll, ↓reduceIte, reduceCtorEq, Nat.reduceEqDiff, Nat.reduceBEq, Nat.reduceAdd, Nat.reduceLeDiff, Nat.reduceSub, Nat.reduceMul, Int.reduceToNat, List.size_toArray, tyF, MM, bu0, ipure, kpure, tpure, sspure, kset, tset, ksnoc, tsnoc, Kind.av, Twist.sl, Twist.tr, Invar.av, stsize, stget, sttl, stapp, stext, tsspure, Model.sl, Model.tr, vset, vsnoc, vpure, Puzz.sl, Puzz.tr]
theorem isSeedS (x : Int) : SpecAt Try.prog 79 [.i64 x] (.bl (within x 0 2147483646)) := by
  refine spec_of_awp (M := MM) (np := 1) (fz := true) mixed Try.func79 rfl rfl (by decide) rfl (Nat.le_refl _) (by decide +kernel) (.inr ⟨rfl, rfl⟩) trivial ?_
  simp -dsimp -implicitDefEqProofs (disch := first | omega | (simp only [lenr]; done) | (simp only [lenr]; omega)) only [↓amPre, amAll, ↓reduceIte, reduceCtorEq, Nat.reduceEqDiff, Nat.reduceBEq, Nat.reduceAdd, Nat.reduceLeDiff, Nat.reduceSub, Nat.reduceMul, Int.reduceToNat, List.size_toArray, tyF, MM, bu0, ipure, kpure, tpure, sspure, kset, tset, ksnoc, tsnoc, Kind.av, Twist.sl, Twist.tr, Invar.av, stsize, stget, sttl, stapp, stext, tsspure, Model.sl, Model.tr, vset, vsnoc, vpure, Puzz.sl, Puzz.tr]
  refine callP_of (inRange _ _ _) ?_
  simp -dsimp -implicitDefEqProofs (disch := first | omega | (simp only [lenr]; done) | (simp only [lenr]; omega)) only [↓amPre, amAll, ↓reduceIte, reduceCtorEq, Nat.reduceEqDiff, Nat.reduceBEq, Nat.reduceAdd, Nat.reduceLeDiff, Nat.reduceSub, Nat.reduceMul, Int.reduceToNat, List.size_toArray, tyF, MM, bu0, ipure, kpure, tpure, sspure, kset, tset, ksnoc, tsnoc, Kind.av, Twist.sl, Twist.tr, Invar.av, stsize, stget, sttl, stapp, stext, tsspure, Model.sl, Model.tr, vset, vsnoc, vpure, Puzz.sl, Puzz.tr]
theorem isLenS (x : Int) : SpecAt Try.prog 80 [.i64 x] (.bl (within x 0 200)) := by
  refine spec_of_awp (M := MM) (np := 1) (fz := true) mixed Try.func80 rfl rfl (by decide) rfl (Nat.le_refl _) (by decide +kernel) (.inr ⟨rfl, rfl⟩) trivial ?_
  simp -dsimp -implicitDefEqProofs (disch := first | omega | (simp only [lenr]; done) | (simp only [lenr]; omega)) only [↓amPre, amAll, ↓reduceIte, reduceCtorEq, Nat.reduceEqDiff, Nat.reduceBEq, Nat.reduceAdd, Nat.reduceLeDiff, Nat.reduceSub, Nat.reduceMul, Int.reduceToNat, List.size_toArray, tyF, MM, bu0, ipure, kpure, tpure, sspure, kset, tset, ksnoc, tsnoc, Kind.av, Twist.sl, Twist.tr, Invar.av, stsize, stget, sttl, stapp, stext, tsspure, Model.sl, Model.tr, vset, vsnoc, vpure, Puzz.sl, Puzz.tr]
  refine callP_of (inRange _ _ _) ?_
  simp -dsimp -implicitDefEqProofs (disch := first | omega | (simp only [lenr]; done) | (simp only [lenr]; omega)) only [↓amPre, amAll, ↓reduceIte, reduceCtorEq, Nat.reduceEqDiff, Nat.reduceBEq, Nat.reduceAdd, Nat.reduceLeDiff, Nat.reduceSub, Nat.reduceMul, Int.reduceToNat, List.size_toArray, tyF, MM, bu0, ipure, kpure, tpure, sspure, kset, tset, ksnoc, tsnoc, Kind.av, Twist.sl, Twist.tr, Invar.av, stsize, stget, sttl, stapp, stext, tsspure, Model.sl, Model.tr, vset, vsnoc, vpure, Puzz.sl, Puzz.tr]
theorem canScramble (p : Puzz) (x c : Int) (h : smallP p) : SpecAt Try.prog 82 [p.sl, .i64 x, .i64 c] (.bl (decide (canScr p x c))) := by
  refine spec_of_awp (M := MM) (np := 3) (fz := true) mixed Try.func82 rfl rfl (by decide) rfl (Nat.le_refl _) (by decide +kernel) (.inr ⟨rfl, rfl⟩) trivial ?_
  simp -dsimp -implicitDefEqProofs (disch := first | omega | (simp only [lenr]; done) | (simp only [lenr]; omega)) only [↓amPre, amAll, ↓reduceIte, reduceCtorEq, Nat.reduceEqDiff, Nat.reduceBEq, Nat.reduceAdd, Nat.reduceLeDiff, Nat.reduceSub, Nat.reduceMul, Int.reduceToNat, List.size_toArray, tyF, MM, bu0, ipure, kpure, tpure, sspure, kset, tset, ksnoc, tsnoc, Kind.av, Twist.sl, Twist.tr, Invar.av, stsize, stget, sttl, stapp, stext, tsspure, Model.sl, Model.tr, vset, vsnoc, vpure, Puzz.sl, Puzz.tr]
  refine callP_of (iPuzzle p h) ?_
  by_cases c1 : puzzOk p
  case neg =>
    simp -dsimp -implicitDefEqProofs (disch := first | omega | (simp only [lenr]; done) | (simp only [lenr]; omega)) only [↓amPre, amAll, ↓reduceIte, reduceCtorEq, Nat.reduceEqDiff, Nat.reduceBEq, Nat.reduceAdd, Nat.reduceLeDiff, Nat.reduceSub, Nat.reduceMul, Int.reduceToNat, List.size_toArray, tyF, MM, bu0, ipure, kpure, tpure, sspure, kset, tset, ksnoc, tsnoc, Kind.av, Twist.sl, Twist.tr, Invar.av, stsize, stget, sttl, stapp, stext, tsspure, Model.sl, Model.tr, vset, vsnoc, vpure, Puzz.sl, Puzz.tr, c1]
    simp [canScr, c1]
  simp -dsimp -implicitDefEqProofs (disch := first | omega | (simp only [lenr]; done) | (simp only [lenr]; omega)) only [↓amPre, amAll, ↓reduceIte, reduceCtorEq, Nat.reduceEqDiff, Nat.reduceBEq, Nat.reduceAdd, Nat.reduceLeDiff, Nat.reduceSub, Nat.reduceMul, Int.reduceToNat, List.size_toArray, tyF, MM, bu0, ipure, kpure, tpure, sspure, kset, tset, ksnoc, tsnoc, Kind.av, Twist.sl, Twist.tr, Invar.av, stsize, stget, sttl, stapp, stext, tsspure, Model.sl, Model.tr, vset, vsnoc, vpure, Puzz.sl, Puzz.tr, c1]
  refine callP_of (isSeedI x) ?_
  cases c2 : within x 0 2147483646 with
  | false =>
    simp -dsimp -implicitDefEqProofs (disch := first | omega | (simp only [lenr]; done) | (simp only [lenr]; omega)) only [↓amPre, amAll, ↓reduceIte, reduceCtorEq, Nat.reduceEqDiff, Nat.reduceBEq, Nat.reduceAdd, Nat.reduceLeDiff, Nat.reduceSub, Nat.reduceMul, Int.reduceToNat, List.size_toArray, tyF, MM, bu0, ipure, kpure, tpure, sspure, kset, tset, ksnoc, tsnoc, Kind.av, Twist.sl, Twist.tr, Invar.av, stsize, stget, sttl, stapp, stext, tsspure, Model.sl, Model.tr, vset, vsnoc, vpure, Puzz.sl, Puzz.tr, c1]
    simp [canScr, c2]
  | true =>
    simp -dsimp -implicitDefEqProofs (disch := first | omega | (simp only [lenr]; done) | (simp only [lenr]; omega)) only [↓amPre, amAll, ↓reduceIte, reduceCtorEq, Nat.reduceEqDiff, Nat.reduceBEq, Nat.reduceAdd, Nat.reduceLeDiff, Nat.reduceSub, Nat.reduceMul, Int.reduceToNat, List.size_toArray, tyF, MM, bu0, ipure, kpure, tpure, sspure, kset, tset, ksnoc, tsnoc, Kind.av, Twist.sl, Twist.tr, Invar.av, stsize, stget, sttl, stapp, stext, tsspure, Model.sl, Model.tr, vset, vsnoc, vpure, Puzz.sl, Puzz.tr, c1]
    refine callP_of (iwithin _ _ _) ?_
    simp -dsimp -implicitDefEqProofs (disch := first | omega | (simp only [lenr]; done) | (simp only [lenr]; omega)) only [↓amPre, amAll, ↓reduceIte, reduceCtorEq, Nat.reduceEqDiff, Nat.reduceBEq, Nat.reduceAdd, Nat.reduceLeDiff, Nat.reduceSub, Nat.reduceMul, Int.reduceToNat, List.size_toArray, tyF, MM, bu0, ipure, kpure, tpure, sspure, kset, tset, ksnoc, tsnoc, Kind.av, Twist.sl, Twist.tr, Invar.av, stsize, stget, sttl, stapp, stext, tsspure, Model.sl, Model.tr, vset, vsnoc, vpure, Puzz.sl, Puzz.tr, c1]
    simp [canScr, c1, c2]
end Go.AM
set_option maxRecDepth 8000
namespace Go.AM
open Go.Proofs
def pwL (e : List Int) (k : Nat) : List Int := (List.range e.length).map fun x => ((itN (fOf e) k x : Nat) : Int)
def lcmK (L : List (List Int)) : Nat → Nat
  | 0 => 1
  | j + 1 => Nat.lcm (lcmK L j) (L.getD j default).length
def ordE (e : List Int) : Nat := lcmK (longC (cycI e)) (longC (cycI e)).length
def spK (e : List Int) : Nat → Nat × Nat
  | 0 => (0, 0)
  | j + 1 => if (spK e j).1 = 0 ∨ (movL (pwL e (j + 1)) e.length).length < (spK e j).2 then (j + 1, (movL (pwL e (j + 1)) e.length).length) else spK e j
end Go.AM
set_option maxRecDepth 8000
namespace Go.AM
open Go.Proofs
def treeGcd : OT := (.alt 0 (.alt 1 (.alt 2 (.alt 3 (.alt 4 (.alt 5 .done .stop) .stop) (.alt 4 (.alt 3 (.alt 5 .done .stop) .stop) .stop)) (.alt 4 (.alt 2 (.alt 3 (.alt 5 .done .stop) .stop) .stop) .stop)) (.alt 2 (.alt 1 (.alt 3 (.alt 4 (.alt 5 .done .stop) .stop) (.alt 4 (.alt 3 (.alt 5 .done .stop) .stop) .stop)) .stop) .stop)) (.alt 1 (.alt 0 (.alt 2 (.alt 3 (.alt 4 (.alt 5 .done .stop) .stop) (.alt 4 (.alt 3 (.alt 5 .done .stop) .stop) .stop)) (.alt 4 (.alt 2 (.alt 3 (.alt 5 .done .stop) .stop) .stop) .stop)) (.alt 2 (.alt 0 (.alt 3 (.alt 4 (.alt 5 .done .stop) .stop) (.alt 4 (.alt 3 (.alt 5 .done .stop) .stop) .stop)) (.alt 3 (.alt 0 (.alt 4 (.alt 5 .done .stop) .stop) .stop) .stop)) .stop)) (.alt 2 (.alt 0 (.alt 1 (.alt 3 (.alt 4 (.alt 5 .done .stop) .stop) (.alt 4 (.alt 3 (.alt 5 .done .stop) .stop) .stop)) .stop) (.alt 1 (.alt 0 (.alt 3 (.alt 4 (.alt 5 .done .stop) .stop) (.alt 4 (.alt 3 (.alt 5 .done .stop) .stop) .stop)) (.alt 3 (.alt 0 (.alt 4 (.alt 5 .done .stop) .stop) .stop) .stop)) .stop)) .stop)))
def gcK (a b : Nat) : Nat → Nat × Nat
  | 0 => (a, b)
  | k + 1 => ((gcK a b k).2, (gcK a b k).1 % (gcK a b k).2)
end Go.AM
set_option maxRecDepth 8000
namespace Go.AM
open Go.Proofs
theorem cp_comp (p q : List Int) : cpL p q p.length = compI p q := by
  refine ext_getD 0 (by rw [cpL_len, compI_len]) fun i hi => ?_
  rw [cpL_len] at hi
  rw [cpL, range_map_get _ _ _ _ hi, compI_get _ _ _ hi]
def spR (p : Puzz) (w : List Int) : Nat × Nat := if puzzOk p ∧ wordOk p.mv.length w then spK (effK p.n p.mv w w.length) (ordE (effK p.n p.mv w w.length) - 1) else (0, 0)
abbrev spA (x : Nat × Nat) : AV := .tup [.i64 x.1, .i64 x.2]
end Go.AM
set_option maxRecDepth 8000
namespace Go.AM
open Go.Proofs
def consM (m : Model) (i : Invar) : Prop := modelOk m ∧ ∀ s ∈ m.mv, invV m.ks s i = 0
instance (m : Model) (i : Invar) : Decidable (consM m i) := by unfold consM; infer_instance
def trivK (ks : List Kind) (set : Int) : Nat → Bool
  | 0 => true
  | k + 1 => trivK ks set k && !(bitK set k && decide (1 < (ks.getD k default).c))
def trivI (ks : List Kind) (i : Invar) : Bool := if i.k = 1 then decide ((ks.getD i.s.toNat default).o = 1) else trivK ks i.s ks.length
end Go.AM
set_option maxRecDepth 8000
namespace Go.AM
open Go.Proofs
def keepI (m : Model) (i : Invar) : Bool := !trivI m.ks i && decide (consM m i)
def allI (ks : List Kind) : List Invar := twL ks.length ++ paL (2 ^ ks.length - 1)
def consL (m : Model) : List Invar := (allI m.ks).filter (keepI m)
def consR (m : Model) : List Invar := if modelOk m then consL m else []
end Go.AM
set_option maxRecDepth 8000
namespace Go.AM
open Go.Proofs
def vioO (m : Model) (s : List Twist) : Option Invar := if psOk m.ks s then (consR m).find? (fun i => invV m.ks s i != 0) else none
def vioR (o : Option Invar) : AV := match o with | some i => .tup [i.av, .bl true] | none => .tup [(⟨0, 0⟩ : Invar).av, .bl false]
end Go.AM
set_option maxRecDepth 8000
namespace Go.AM
open Go.Proofs
theorem sEqualInts (a b : List Int) (ha : a.length ≤ 1099511627776) : SpecAt Try.prog 100 [isl a, isl b] (.bl (decide (a = b))) := by
  refine spec_of_awp (M := MM) (np := 2) (fz := true) mixed Try.func100 rfl rfl (by decide) rfl (Nat.le_refl _) (by decide +kernel) (.inr ⟨rfl, rfl⟩) trivial ?_
  simp -dsimp -implicitDefEqProofs (disch := first | omega | (simp only [lenr]; done) | (simp only [lenr]; omega)) only [↓amPre, amAll, ↓reduceIte, reduceCtorEq, Nat.reduceEqDiff, Nat.reduceBEq, Nat.reduceAdd, Nat.reduceLeDiff, Nat.reduceSub, Nat.reduceMul, Int.reduceToNat, List.size_toArray, tyF, MM, bu0, ipure, kpure, tpure, sspure, kset, tset, ksnoc, tsnoc, Kind.av, Twist.sl, Twist.tr, Invar.av, stsize, stget, sttl, stapp, stext, tsspure, Model.sl, Model.tr, vset, vsnoc, vpure]
  refine ifP_mk ?_ ?_ <;> intro h1
  · simp -dsimp -implicitDefEqProofs (disch := first | omega | (simp only [lenr]; done) | (simp only [lenr]; omega)) only [↓amPre, amAll, ↓reduceIte, reduceCtorEq, Nat.reduceEqDiff, Nat.reduceBEq, Nat.reduceAdd, Nat.reduceLeDiff, Nat.reduceSub, Nat.reduceMul, Int.reduceToNat, List.size_toArray, tyF, MM, bu0, ipure, kpure, tpure, sspure, kset, tset, ksnoc, tsnoc, Kind.av, Twist.sl, Twist.tr, Invar.av, stsize, stget, sttl, stapp, stext, tsspure, Model.sl, Model.tr, vset, vsnoc, vpure, h1]
    have : ¬ a = b := by intro e; subst e; simp at h1
    simp [this]
  simp -dsimp -implicitDefEqProofs (disch := first | omega | (simp only [lenr]; done) | (simp only [lenr]; omega)) only [↓amPre, amAll, ↓reduceIte, reduceCtorEq, Nat.reduceEqDiff, Nat.reduceBEq, Nat.reduceAdd, Nat.reduceLeDiff, Nat.reduceSub, Nat.reduceMul, Int.reduceToNat, List.size_toArray, tyF, MM, bu0, ipure, kpure, tpure, sspure, kset, tset, ksnoc, tsnoc, Kind.av, Twist.sl, Twist.tr, Invar.av, stsize, stget, sttl, stapp, stext, tsspure, Model.sl, Model.tr, vset, vsnoc, vpure, h1]
  have hab : a.length = b.length := by simp at h1; omega
  refine awp_loop (fun k st => k ≤ a.length ∧ st.fr 5 = .i64 k ∧ st.fr 0 = isl a ∧ st.fr 1 = isl b ∧ a.take k = b.take k) (a.length) ?_ ?_
  · simp -dsimp -implicitDefEqProofs (disch := first | omega | (simp only [lenr]; done) | (simp only [lenr]; omega)) only [↓amPre, amAll, ↓reduceIte, reduceCtorEq, Nat.reduceEqDiff, Nat.reduceBEq, Nat.reduceAdd, Nat.reduceLeDiff, Nat.reduceSub, Nat.reduceMul, Int.reduceToNat, List.size_toArray, tyF, MM, bu0, ipure, kpure, tpure, sspure, kset, tset, ksnoc, tsnoc, Kind.av, Twist.sl, Twist.tr, Invar.av, stsize, stget, sttl, stapp, stext, tsspure, Model.sl, Model.tr, vset, vsnoc, vpure]
    repeat' (first | omega | rfl | exact i64c (by omega) | exact vic (by omega) | apply And.intro)
  rintro k st _ ⟨hk, f5, f0, f1, ek⟩
  by_cases hlt : k < a.length
  · simp -dsimp -implicitDefEqProofs (disch := first | omega | (simp only [lenr]; done) | (simp only [lenr]; omega)) only [↓amPre, amAll, ↓reduceIte, reduceCtorEq, Nat.reduceEqDiff, Nat.reduceBEq, Nat.reduceAdd, Nat.reduceLeDiff, Nat.reduceSub, Nat.reduceMul, Int.reduceToNat, List.size_toArray, tyF, MM, bu0, ipure, kpure, tpure, sspure, kset, tset, ksnoc, tsnoc, Kind.av, Twist.sl, Twist.tr, Invar.av, stsize, stget, sttl, stapp, stext, tsspure, Model.sl, Model.tr, vset, vsnoc, vpure, f5, f0, f1]
    refine ifP_mk ?_ ?_ <;> intro w1
    · simp -dsimp -implicitDefEqProofs (disch := first | omega | (simp only [lenr]; done) | (simp only [lenr]; omega)) only [↓amPre, amAll, ↓reduceIte, reduceCtorEq, Nat.reduceEqDiff, Nat.reduceBEq, Nat.reduceAdd, Nat.reduceLeDiff, Nat.reduceSub, Nat.reduceMul, Int.reduceToNat, List.size_toArray, tyF, MM, bu0, ipure, kpure, tpure, sspure, kset, tset, ksnoc, tsnoc, Kind.av, Twist.sl, Twist.tr, Invar.av, stsize, stget, sttl, stapp, stext, tsspure, Model.sl, Model.tr, vset, vsnoc, vpure, f5, f0, f1, w1]
      have hne : ¬ a = b := by
        intro e; subst e; simp at w1
      simp [hne]
    · simp -dsimp -implicitDefEqProofs (disch := first | omega | (simp only [lenr]; done) | (simp only [lenr]; omega)) only [↓amPre, amAll, ↓reduceIte, reduceCtorEq, Nat.reduceEqDiff, Nat.reduceBEq, Nat.reduceAdd, Nat.reduceLeDiff, Nat.reduceSub, Nat.reduceMul, Int.reduceToNat, List.size_toArray, tyF, MM, bu0, ipure, kpure, tpure, sspure, kset, tset, ksnoc, tsnoc, Kind.av, Twist.sl, Twist.tr, Invar.av, stsize, stget, sttl, stapp, stext, tsspure, Model.sl, Model.tr, vset, vsnoc, vpure, f5, f0, f1, w1]
      simp only [bne_eq_false_iff_eq] at w1
      repeat' (first | omega | rfl | exact i64c (by omega) | exact vic (by omega) | exact (take_eq_iff 0 k hlt (by omega)).2 ⟨ek, w1⟩ | apply And.intro)
  · have hke : k = a.length := by omega
    subst hke
    simp -dsimp -implicitDefEqProofs (disch := first | omega | (simp only [lenr]; done) | (simp only [lenr]; omega)) only [↓amPre, amAll, ↓reduceIte, reduceCtorEq, Nat.reduceEqDiff, Nat.reduceBEq, Nat.reduceAdd, Nat.reduceLeDiff, Nat.reduceSub, Nat.reduceMul, Int.reduceToNat, List.size_toArray, tyF, MM, bu0, ipure, kpure, tpure, sspure, kset, tset, ksnoc, tsnoc, Kind.av, Twist.sl, Twist.tr, Invar.av, stsize, stget, sttl, stapp, stext, tsspure, Model.sl, Model.tr, vset, vsnoc, vpure, f5, f0, f1]
    simp [eq_of_takes hab ek]
end Go.AM
set_option maxRecDepth 8000
namespace Go.AM
open Go.Proofs
theorem sLetter (n : Int) (mv : List (List Int)) (x : Int) (hp : genOk n mv) (hx : letOk mv.length x) : SpecAt Try.prog 196 [ssl mv, .i64 x] (isl (letP mv x)) ∨ SpecAt Try.prog 196 [ssl mv, .i64 x] (itr (letP mv x)) := by
  have hlx : letP mv x = _ := rfl
  conv at hlx => rhs; rw [letP]
  unfold letOk at hx
  have hm8 := hp.2.1
  by_cases c0 : 0 < x
  · obtain ⟨m, hm1⟩ : ∃ m : Nat, x - 1 = m := ⟨_, (Int.toNat_of_nonneg (by omega)).symm⟩
    rw [if_pos c0, hm1, Int.toNat_natCast] at hlx
    have hmlt : m < mv.length := by omega
    have c1 : 0 ≤ x := by omega
    rw [hlx]
    left
    refine spec_of_awp (M := MM) (np := 2) (fz := true) mixed Try.func196 rfl rfl (by decide) rfl (Nat.le_refl _) (by decide +kernel) (.inr ⟨rfl, rfl⟩) trivial ?_
    simp -dsimp -implicitDefEqProofs (disch := first | omega | (simp only [lenr]; done) | (simp only [lenr]; omega)) only [↓amPre, amAll, ↓reduceIte, reduceCtorEq, Nat.reduceEqDiff, Nat.reduceBEq, Nat.reduceAdd, Nat.reduceLeDiff, Nat.reduceSub, Nat.reduceMul, Int.reduceToNat, List.size_toArray, tyF, MM, bu0, ipure, kpure, tpure, sspure, kset, tset, ksnoc, tsnoc, Kind.av, Twist.sl, Twist.tr, Invar.av, stsize, stget, sttl, stapp, stext, tsspure, Model.sl, Model.tr, vset, vsnoc, vpure, Puzz.sl, Puzz.tr, lt_false c1, hm1]
  · obtain ⟨m, hm1⟩ : ∃ m : Nat, -x - 1 = m := ⟨_, (Int.toNat_of_nonneg (by omega)).symm⟩
    rw [if_neg c0, hm1, Int.toNat_natCast] at hlx
    have hmlt : m < mv.length := by omega
    have hw : IntKind.i64.wrap (0 - x) = 0 - x := wrap64_id (by omega)
    have hm2 : 0 - x - 1 = m := by omega
    have c1 : x < 0 := by omega
    have hq := hp.2.2 _ (mem_getD mv m default hmlt)
    rw [hlx]
    generalize hM : mv.getD m default = M at hq
    have hM20 := hq.2.1.2
    have hv := sinverse M hq.2
    rw [ivL_invI] at hv
    right
    refine spec_of_awp (M := MM) (np := 2) (fz := false) mixed Try.func196 rfl rfl (by decide) rfl (Nat.le_refl _) (by decide +kernel) (.inl rfl) (by first | trivial | simp only [sigsOk_nil, sigsOk_some, sigsOk_none, sig_tr, sig_pt, sig_mt, sig_agg, List.map_cons, List.map_nil, sig1_tr, sig1_pt, sig1_v, and_self, true_and, List.length_map, List.length_set]) ?_
    simp -dsimp -implicitDefEqProofs (disch := first | omega | (simp only [lenr]; done) | (simp only [lenr]; omega)) only [↓amPre, amAll, ↓reduceIte, reduceCtorEq, Nat.reduceEqDiff, Nat.reduceBEq, Nat.reduceAdd, Nat.reduceLeDiff, Nat.reduceSub, Nat.reduceMul, Int.reduceToNat, List.size_toArray, tyF, MM, bu0, ipure, kpure, tpure, sspure, kset, tset, ksnoc, tsnoc, Kind.av, Twist.sl, Twist.tr, Invar.av, stsize, stget, sttl, stapp, stext, tsspure, Model.sl, Model.tr, vset, vsnoc, vpure, Puzz.sl, Puzz.tr, lt_true c1, hw, hm2, hM]
    refine callP_of (hv) ?_
    simp -dsimp -implicitDefEqProofs (disch := first | omega | (simp only [lenr]; done) | (simp only [lenr]; omega)) only [↓amPre, amAll, ↓reduceIte, reduceCtorEq, Nat.reduceEqDiff, Nat.reduceBEq, Nat.reduceAdd, Nat.reduceLeDiff, Nat.reduceSub, Nat.reduceMul, Int.reduceToNat, List.size_toArray, tyF, MM, bu0, ipure, kpure, tpure, sspure, kset, tset, ksnoc, tsnoc, Kind.av, Twist.sl, Twist.tr, Invar.av, stsize, stget, sttl, stapp, stext, tsspure, Model.sl, Model.tr, vset, vsnoc, vpure, Puzz.sl, Puzz.tr, hM]
theorem sEvaluate (n : Nat) (mv : List (List Int)) (w : List Int) (hp : genOk n mv) (hw : wordOk mv.length w) : SpecAt Try.prog 169 [.i64 n, ssl mv, isl w] (itr (effK n mv w w.length)) := by
  have hn := hp.1
  have h1 := sIdentity n (by omega)
  have hw2 := hw.1
  have hr := runI_len 0 n
  refine spec_of_awp (M := MM) (np := 3) (fz := false) mixed Try.func169 rfl rfl (by decide) rfl (Nat.le_refl _) (by decide +kernel) (.inl rfl) (by first | trivial | simp only [sigsOk_nil, sigsOk_some, sigsOk_none, sig_tr, sig_pt, sig_mt, sig_agg, List.map_cons, List.map_nil, sig1_tr, sig1_pt, sig1_v, and_self, true_and, List.length_map, List.length_set]) ?_
  simp -dsimp -implicitDefEqProofs (disch := first | omega | (simp only [lenr]; done) | (simp only [lenr]; omega)) only [↓amPre, amAll, ↓reduceIte, reduceCtorEq, Nat.reduceEqDiff, Nat.reduceBEq, Nat.reduceAdd, Nat.reduceLeDiff, Nat.reduceSub, Nat.reduceMul, Int.reduceToNat, List.size_toArray, tyF, MM, bu0, ipure, kpure, tpure, sspure, kset, tset, ksnoc, tsnoc, Kind.av, Twist.sl, Twist.tr, Invar.av, stsize, stget, sttl, stapp, stext, tsspure, Model.sl, Model.tr, vset, vsnoc, vpure, Puzz.sl, Puzz.tr]
  refine callP_of (h1) ?_
  simp -dsimp -implicitDefEqProofs (disch := first | omega | (simp only [lenr]; done) | (simp only [lenr]; omega)) only [↓amPre, amAll, ↓reduceIte, reduceCtorEq, Nat.reduceEqDiff, Nat.reduceBEq, Nat.reduceAdd, Nat.reduceLeDiff, Nat.reduceSub, Nat.reduceMul, Int.reduceToNat, List.size_toArray, tyF, MM, bu0, ipure, kpure, tpure, sspure, kset, tset, ksnoc, tsnoc, Kind.av, Twist.sl, Twist.tr, Invar.av, stsize, stget, sttl, stapp, stext, tsspure, Model.sl, Model.tr, vset, vsnoc, vpure, Puzz.sl, Puzz.tr, hr]
  refine awp_loopR 10 24 (itr (runI 0 n)) (by simp -dsimp -implicitDefEqProofs (disch := first | omega | (simp only [lenr]; done) | (simp only [lenr]; omega)) only [↓amPre, amAll, ↓reduceIte, reduceCtorEq, Nat.reduceEqDiff, Nat.reduceBEq, Nat.reduceAdd, Nat.reduceLeDiff, Nat.reduceSub, Nat.reduceMul, Int.reduceToNat, List.size_toArray, tyF, MM, bu0, ipure, kpure, tpure, sspure, kset, tset, ksnoc, tsnoc, Kind.av, Twist.sl, Twist.tr, Invar.av, stsize, stget, sttl, stapp, stext, tsspure, Model.sl, Model.tr, vset, vsnoc, vpure, Puzz.sl, Puzz.tr]) (by decide) (by decide) (by decide) (fun k st => k ≤ w.length ∧ st.fr 8 = .i64 k ∧ st.fr 7 = .ref 24 [] 1 0 (effK n mv w k).length ∧ st.fr 1 = ssl mv ∧ st.fr 2 = isl w ∧ st.mem 24 = some (itr (effK n mv w k))) (w.length) ?_ ?_
  · simp -dsimp -implicitDefEqProofs (disch := first | omega | (simp only [lenr]; done) | (simp only [lenr]; omega)) only [↓amPre, amAll, ↓reduceIte, reduceCtorEq, Nat.reduceEqDiff, Nat.reduceBEq, Nat.reduceAdd, Nat.reduceLeDiff, Nat.reduceSub, Nat.reduceMul, Int.reduceToNat, List.size_toArray, tyF, MM, bu0, ipure, kpure, tpure, sspure, kset, tset, ksnoc, tsnoc, Kind.av, Twist.sl, Twist.tr, Invar.av, stsize, stget, sttl, stapp, stext, tsspure, Model.sl, Model.tr, vset, vsnoc, vpure, Puzz.sl, Puzz.tr, ren_eq, effK]
    exact ⟨Nat.zero_le _, rfl, by simp [runI_len]⟩
  rintro k st _ ⟨hk, f8, f7, f1, f2, m24⟩
  have hk1 := effK_ok hp hw k hk
  have hef : effK n mv w (k + 1) = compI (effK n mv w k) (letP mv (w.getD k 0)) := rfl
  by_cases hlt : k < w.length
  · have hx := hw.2 _ (mem_getD w k 0 hlt)
    have hlo := letP_ok hp hx
    have hl : (effK n mv w (k + 1)).length = (effK n mv w k).length := by rw [hef, compI_len]
    have hl20 := hk1.2.1.2
    have hq := scompose (effK n mv w k) (letP mv (w.getD k 0)) (by omega) (fun y hy => by have := hk1.2.2.1 y hy; have := hk1.1; have := hlo.1; omega)
    rw [cp_comp, ← hef] at hq
    rcases sLetter n mv (w.getD k 0) hp hx with ha | ha
    · simp -dsimp -implicitDefEqProofs (disch := first | omega | (simp only [lenr]; done) | (simp only [lenr]; omega)) only [↓amPre, amAll, ↓reduceIte, reduceCtorEq, Nat.reduceEqDiff, Nat.reduceBEq, Nat.reduceAdd, Nat.reduceLeDiff, Nat.reduceSub, Nat.reduceMul, Int.reduceToNat, List.size_toArray, tyF, MM, bu0, ipure, kpure, tpure, sspure, kset, tset, ksnoc, tsnoc, Kind.av, Twist.sl, Twist.tr, Invar.av, stsize, stget, sttl, stapp, stext, tsspure, Model.sl, Model.tr, vset, vsnoc, vpure, Puzz.sl, Puzz.tr, f8, f7, f1, f2, m24]
      refine callP_of (ha) ?_
      simp -dsimp -implicitDefEqProofs (disch := first | omega | (simp only [lenr]; done) | (simp only [lenr]; omega)) only [↓amPre, amAll, ↓reduceIte, reduceCtorEq, Nat.reduceEqDiff, Nat.reduceBEq, Nat.reduceAdd, Nat.reduceLeDiff, Nat.reduceSub, Nat.reduceMul, Int.reduceToNat, List.size_toArray, tyF, MM, bu0, ipure, kpure, tpure, sspure, kset, tset, ksnoc, tsnoc, Kind.av, Twist.sl, Twist.tr, Invar.av, stsize, stget, sttl, stapp, stext, tsspure, Model.sl, Model.tr, vset, vsnoc, vpure, Puzz.sl, Puzz.tr, f8, f7, f1, f2, m24]
      refine callP_of (hq) ?_
      simp -dsimp -implicitDefEqProofs (disch := first | omega | (simp only [lenr]; done) | (simp only [lenr]; omega)) only [↓amPre, amAll, ↓reduceIte, reduceCtorEq, Nat.reduceEqDiff, Nat.reduceBEq, Nat.reduceAdd, Nat.reduceLeDiff, Nat.reduceSub, Nat.reduceMul, Int.reduceToNat, List.size_toArray, tyF, MM, bu0, ipure, kpure, tpure, sspure, kset, tset, ksnoc, tsnoc, Kind.av, Twist.sl, Twist.tr, Invar.av, stsize, stget, sttl, stapp, stext, tsspure, Model.sl, Model.tr, vset, vsnoc, vpure, Puzz.sl, Puzz.tr, f8, f7, f1, f2, m24, hl]
      repeat' (first | omega | rfl | exact i64c (by omega) | exact vic (by omega) | apply And.intro)
    · simp -dsimp -implicitDefEqProofs (disch := first | omega | (simp only [lenr]; done) | (simp only [lenr]; omega)) only [↓amPre, amAll, ↓reduceIte, reduceCtorEq, Nat.reduceEqDiff, Nat.reduceBEq, Nat.reduceAdd, Nat.reduceLeDiff, Nat.reduceSub, Nat.reduceMul, Int.reduceToNat, List.size_toArray, tyF, MM, bu0, ipure, kpure, tpure, sspure, kset, tset, ksnoc, tsnoc, Kind.av, Twist.sl, Twist.tr, Invar.av, stsize, stget, sttl, stapp, stext, tsspure, Model.sl, Model.tr, vset, vsnoc, vpure, Puzz.sl, Puzz.tr, f8, f7, f1, f2, m24]
      refine callP_of (ha) ?_
      simp -dsimp -implicitDefEqProofs (disch := first | omega | (simp only [lenr]; done) | (simp only [lenr]; omega)) only [↓amPre, amAll, ↓reduceIte, reduceCtorEq, Nat.reduceEqDiff, Nat.reduceBEq, Nat.reduceAdd, Nat.reduceLeDiff, Nat.reduceSub, Nat.reduceMul, Int.reduceToNat, List.size_toArray, tyF, MM, bu0, ipure, kpure, tpure, sspure, kset, tset, ksnoc, tsnoc, Kind.av, Twist.sl, Twist.tr, Invar.av, stsize, stget, sttl, stapp, stext, tsspure, Model.sl, Model.tr, vset, vsnoc, vpure, Puzz.sl, Puzz.tr, f8, f7, f1, f2, m24]
      refine callP_of (hq) ?_
      simp -dsimp -implicitDefEqProofs (disch := first | omega | (simp only [lenr]; done) | (simp only [lenr]; omega)) only [↓amPre, amAll, ↓reduceIte, reduceCtorEq, Nat.reduceEqDiff, Nat.reduceBEq, Nat.reduceAdd, Nat.reduceLeDiff, Nat.reduceSub, Nat.reduceMul, Int.reduceToNat, List.size_toArray, tyF, MM, bu0, ipure, kpure, tpure, sspure, kset, tset, ksnoc, tsnoc, Kind.av, Twist.sl, Twist.tr, Invar.av, stsize, stget, sttl, stapp, stext, tsspure, Model.sl, Model.tr, vset, vsnoc, vpure, Puzz.sl, Puzz.tr, f8, f7, f1, f2, m24, hl]
      repeat' (first | omega | rfl | exact i64c (by omega) | exact vic (by omega) | apply And.intro)
  · have hke : k = w.length := by omega
    subst hke
    simp -dsimp -implicitDefEqProofs (disch := first | omega | (simp only [lenr]; done) | (simp only [lenr]; omega)) only [↓amPre, amAll, ↓reduceIte, reduceCtorEq, Nat.reduceEqDiff, Nat.reduceBEq, Nat.reduceAdd, Nat.reduceLeDiff, Nat.reduceSub, Nat.reduceMul, Int.reduceToNat, List.size_toArray, tyF, MM, bu0, ipure, kpure, tpure, sspure, kset, tset, ksnoc, tsnoc, Kind.av, Twist.sl, Twist.tr, Invar.av, stsize, stget, sttl, stapp, stext, tsspure, Model.sl, Model.tr, vset, vsnoc, vpure, Puzz.sl, Puzz.tr, f8, f7, f1, f2, m24]
def pwK (p : List Int) (k i : Nat) : List Int := (List.range i).map fun x => ((itN (fOf p) k x : Nat) : Int)
theorem sPermOf (n : Nat) (s : List Int) (hs : moveOk n s) : SpecAt Try.prog 195 [.i64 n, isl s] (.bl true) := by
  have h20 := hs.2.1.2
  have q1 := sIsPerm s (by omega)
  rw [decide_eq_true hs.2] at q1
  have hl := hs.1
  refine spec_of_awp (M := MM) (np := 2) (fz := true) mixed Try.func195 rfl rfl (by decide) rfl (Nat.le_refl _) (by decide +kernel) (.inr ⟨rfl, rfl⟩) trivial ?_
  simp -dsimp -implicitDefEqProofs (disch := first | omega | (simp only [lenr]; done) | (simp only [lenr]; omega)) only [↓amPre, amAll, ↓reduceIte, reduceCtorEq, Nat.reduceEqDiff, Nat.reduceBEq, Nat.reduceAdd, Nat.reduceLeDiff, Nat.reduceSub, Nat.reduceMul, Int.reduceToNat, List.size_toArray, tyF, MM, bu0, ipure, kpure, tpure, sspure, kset, tset, ksnoc, tsnoc, Kind.av, Twist.sl, Twist.tr, Invar.av, stsize, stget, sttl, stapp, stext, tsspure, Model.sl, Model.tr, vset, vsnoc, vpure, Puzz.sl, Puzz.tr, hl]
  refine callP_of (q1) ?_
  simp -dsimp -implicitDefEqProofs (disch := first | omega | (simp only [lenr]; done) | (simp only [lenr]; omega)) only [↓amPre, amAll, ↓reduceIte, reduceCtorEq, Nat.reduceEqDiff, Nat.reduceBEq, Nat.reduceAdd, Nat.reduceLeDiff, Nat.reduceSub, Nat.reduceMul, Int.reduceToNat, List.size_toArray, tyF, MM, bu0, ipure, kpure, tpure, sspure, kset, tset, ksnoc, tsnoc, Kind.av, Twist.sl, Twist.tr, Invar.av, stsize, stget, sttl, stapp, stext, tsspure, Model.sl, Model.tr, vset, vsnoc, vpure, Puzz.sl, Puzz.tr]
end Go.AM
set_option maxRecDepth 8000
namespace Go.AM
open Go.Proofs
theorem comp_id {n : Nat} {s : List Int} (hs : isPerm s) (hl : s.length = n) : compI (runI 0 n) s = s := by
  refine ext_getD 0 (by rw [compI_len, runI_len, hl]) fun i hi => ?_
  rw [compI_len, runI_len] at hi
  rw [compI_get _ _ _ (by rw [runI_len]; exact hi), runI_get _ _ _ hi]
  congr 1; omega
theorem sIsState (p : Puzz) (s : List Int) (h : smallP p) (hp : puzzOk p) (hs : moveOk p.n s) : SpecAt Try.prog 168 [p.sl, isl s] (.bl true) := by
  have q1 := sPuzzle p h
  rw [decide_eq_true hp] at q1
  obtain ⟨pn, nm, mv⟩ := p
  have hn := hp.1.1
  simp only at hn hs ⊢
  obtain ⟨n, rfl⟩ : ∃ n : Nat, pn = n := ⟨pn.toNat, by omega⟩
  have q2 := sPermOf n s hs
  refine spec_of_awp (M := MM) (np := 2) (fz := true) mixed Try.func168 rfl rfl (by decide) rfl (Nat.le_refl _) (by decide +kernel) (.inr ⟨rfl, rfl⟩) trivial ?_
  simp -dsimp -implicitDefEqProofs (disch := first | omega | (simp only [lenr]; done) | (simp only [lenr]; omega)) only [↓amPre, amAll, ↓reduceIte, reduceCtorEq, Nat.reduceEqDiff, Nat.reduceBEq, Nat.reduceAdd, Nat.reduceLeDiff, Nat.reduceSub, Nat.reduceMul, Int.reduceToNat, List.size_toArray, tyF, MM, bu0, ipure, kpure, tpure, sspure, kset, tset, ksnoc, tsnoc, Kind.av, Twist.sl, Twist.tr, Invar.av, stsize, stget, sttl, stapp, stext, tsspure, Model.sl, Model.tr, vset, vsnoc, vpure, Puzz.sl, Puzz.tr]
  refine callP_of (q1) ?_
  simp -dsimp -implicitDefEqProofs (disch := first | omega | (simp only [lenr]; done) | (simp only [lenr]; omega)) only [↓amPre, amAll, ↓reduceIte, reduceCtorEq, Nat.reduceEqDiff, Nat.reduceBEq, Nat.reduceAdd, Nat.reduceLeDiff, Nat.reduceSub, Nat.reduceMul, Int.reduceToNat, List.size_toArray, tyF, MM, bu0, ipure, kpure, tpure, sspure, kset, tset, ksnoc, tsnoc, Kind.av, Twist.sl, Twist.tr, Invar.av, stsize, stget, sttl, stapp, stext, tsspure, Model.sl, Model.tr, vset, vsnoc, vpure, Puzz.sl, Puzz.tr]
  refine callP_of (q2) ?_
  simp -dsimp -implicitDefEqProofs (disch := first | omega | (simp only [lenr]; done) | (simp only [lenr]; omega)) only [↓amPre, amAll, ↓reduceIte, reduceCtorEq, Nat.reduceEqDiff, Nat.reduceBEq, Nat.reduceAdd, Nat.reduceLeDiff, Nat.reduceSub, Nat.reduceMul, Int.reduceToNat, List.size_toArray, tyF, MM, bu0, ipure, kpure, tpure, sspure, kset, tset, ksnoc, tsnoc, Kind.av, Twist.sl, Twist.tr, Invar.av, stsize, stget, sttl, stapp, stext, tsspure, Model.sl, Model.tr, vset, vsnoc, vpure, Puzz.sl, Puzz.tr]
theorem sApplyWord (p : Puzz) (s w : List Int) (h : smallP p) (hp : puzzOk p) (hs : moveOk p.n s) (hw : wordOk p.mv.length w) (hv : ∀ x ∈ w, intOk x) : SpecAt Try.prog 110 [p.sl, isl s, isl w] (.tup [itr (compI s (effK p.n p.mv w w.length)), .bl true]) := by
  have q1 := sIsState p s h hp hs
  have hw2 := hw.1
  have h20 := hs.2.1.2
  have hm8 := hp.1.2.1
  have q2 := sWordOf p.mv.length w (by unfold intOk; omega) (by omega) hv
  rw [decide_eq_true hw] at q2
  have hek := effK_ok hp.1 hw w.length (Nat.le_refl _)
  obtain ⟨pn, nm, mv⟩ := p
  have hn := hp.1.1
  simp only at hn hs hek hw q1 q2 ⊢
  obtain ⟨n, rfl⟩ : ∃ n : Nat, pn = n := ⟨pn.toNat, by omega⟩
  have q3 := sEvaluate n mv w hp.1 hw
  have q4 := scompose s (effK n mv w w.length) (by omega) (fun y hy => by have := hs.2.2.1 y hy; have := hs.1; have := hek.1; omega)
  rw [cp_comp] at q4
  generalize effK (n : Int) mv w w.length = X at q3 q4 hek
  generalize compI s X = Y at q4
  have hx := hek.2.1.2
  refine spec_of_awp (M := MM) (np := 3) (fz := false) mixed Try.func110 rfl rfl (by decide) rfl (Nat.le_refl _) (by decide +kernel) (.inl rfl) (by first | trivial | simp only [sigsOk_nil, sigsOk_some, sigsOk_none, sig_tr, sig_pt, sig_mt, sig_agg, List.map_cons, List.map_nil, sig1_tr, sig1_pt, sig1_v, and_self, true_and, List.length_map, List.length_set]) ?_
  simp -dsimp -implicitDefEqProofs (disch := first | omega | (simp only [lenr]; done) | (simp only [lenr]; omega)) only [↓amPre, amAll, ↓reduceIte, reduceCtorEq, Nat.reduceEqDiff, Nat.reduceBEq, Nat.reduceAdd, Nat.reduceLeDiff, Nat.reduceSub, Nat.reduceMul, Int.reduceToNat, List.size_toArray, tyF, MM, bu0, ipure, kpure, tpure, sspure, kset, tset, ksnoc, tsnoc, Kind.av, Twist.sl, Twist.tr, Invar.av, stsize, stget, sttl, stapp, stext, tsspure, Model.sl, Model.tr, vset, vsnoc, vpure, Puzz.sl, Puzz.tr]
  refine callP_of (q1) ?_
  simp -dsimp -implicitDefEqProofs (disch := first | omega | (simp only [lenr]; done) | (simp only [lenr]; omega)) only [↓amPre, amAll, ↓reduceIte, reduceCtorEq, Nat.reduceEqDiff, Nat.reduceBEq, Nat.reduceAdd, Nat.reduceLeDiff, Nat.reduceSub, Nat.reduceMul, Int.reduceToNat, List.size_toArray, tyF, MM, bu0, ipure, kpure, tpure, sspure, kset, tset, ksnoc, tsnoc, Kind.av, Twist.sl, Twist.tr, Invar.av, stsize, stget, sttl, stapp, stext, tsspure, Model.sl, Model.tr, vset, vsnoc, vpure, Puzz.sl, Puzz.tr]
  refine callP_of (q2) ?_
  simp -dsimp -implicitDefEqProofs (disch := first | omega | (simp only [lenr]; done) | (simp only [lenr]; omega)) only [↓amPre, amAll, ↓reduceIte, reduceCtorEq, Nat.reduceEqDiff, Nat.reduceBEq, Nat.reduceAdd, Nat.reduceLeDiff, Nat.reduceSub, Nat.reduceMul, Int.reduceToNat, List.size_toArray, tyF, MM, bu0, ipure, kpure, tpure, sspure, kset, tset, ksnoc, tsnoc, Kind.av, Twist.sl, Twist.tr, Invar.av, stsize, stget, sttl, stapp, stext, tsspure, Model.sl, Model.tr, vset, vsnoc, vpure, Puzz.sl, Puzz.tr]
  refine callP_of (q3) ?_
  simp -dsimp -implicitDefEqProofs (disch := first | omega | (simp only [lenr]; done) | (simp only [lenr]; omega)) only [↓amPre, amAll, ↓reduceIte, reduceCtorEq, Nat.reduceEqDiff, Nat.reduceBEq, Nat.reduceAdd, Nat.reduceLeDiff, Nat.reduceSub, Nat.reduceMul, Int.reduceToNat, List.size_toArray, tyF, MM, bu0, ipure, kpure, tpure, sspure, kset, tset, ksnoc, tsnoc, Kind.av, Twist.sl, Twist.tr, Invar.av, stsize, stget, sttl, stapp, stext, tsspure, Model.sl, Model.tr, vset, vsnoc, vpure, Puzz.sl, Puzz.tr]
  refine callP_of (q4) ?_
  simp -dsimp -implicitDefEqProofs (disch := first | omega | (simp only [lenr]; done) | (simp only [lenr]; omega)) only [↓amPre, amAll, ↓reduceIte, reduceCtorEq, Nat.reduceEqDiff, Nat.reduceBEq, Nat.reduceAdd, Nat.reduceLeDiff, Nat.reduceSub, Nat.reduceMul, Int.reduceToNat, List.size_toArray, tyF, MM, bu0, ipure, kpure, tpure, sspure, kset, tset, ksnoc, tsnoc, Kind.av, Twist.sl, Twist.tr, Invar.av, stsize, stget, sttl, stapp, stext, tsspure, Model.sl, Model.tr, vset, vsnoc, vpure, Puzz.sl, Puzz.tr]
def scrS (p : Puzz) (x c : Int) : List Int := if canScr p x c then effK p.n p.mv (scrR p x c) (scrR p x c).length else []
theorem scrR_word {p : Puzz} {x c : Int} (h : canScr p x c) : wordOk p.mv.length (scrR p x c) ∧ ∀ y ∈ scrR p x c, intOk y := by
  have hl := scrR_len p x c
  obtain ⟨q1, q2, q3⟩ := h
  have hx := within_iff.1 q2
  have hn := puzz_nm q1
  have hr : scrR p x c = scrW p.mv.length x c.toNat := if_pos ⟨q1, q2, q3⟩
  have hm : ∀ y ∈ scrR p x c, y ≠ 0 ∧ -(p.mv.length : Int) ≤ y ∧ y ≤ p.mv.length := fun y hy => by
    rw [hr] at hy
    exact letL_mem.1 (scrW_mem hn.1 hx.1 (by omega) _ y hy)
  refine ⟨⟨hl, fun y hy => ?_⟩, fun y hy => ?_⟩
  · have := hm y hy
    exact ⟨this.1, ⟨by omega, by omega⟩, by omega, by omega⟩
  · have := hm y hy
    unfold intOk; omega
theorem scrS_len (p : Puzz) (x c : Int) : (scrS p x c).length ≤ 20 := by
  unfold scrS
  split
  · rename_i h
    exact (effK_ok h.1.1 (scrR_word h).1 _ (Nat.le_refl _)).2.1.2
  · simp
theorem sScrambledState (p : Puzz) (x c : Int) (h : smallP p) : SpecAt Try.prog 40 [p.sl, .i64 x, .i64 c] (.tup [itr (scrS p x c), .bl (decide (canScr p x c))]) := by
  have q0 := sPuzzle p h
  by_cases q1 : puzzOk p
  case neg =>
    have hn : ¬ canScr p x c := fun q => q1 q.1
    rw [decide_eq_false q1] at q0
    have hz : scrS p x c = [] := if_neg hn
    rw [decide_eq_false hn, hz]
    refine spec_of_awp_any (M := MM) (np := 3) (X := [3]) (fz := false) mixed Try.func40 rfl rfl (by decide) rfl (Nat.le_refl _) (by decide +kernel) (.inl rfl) (by first | trivial | simp only [sigsOk_nil, sigsOk_some, sigsOk_none, sig_tr, sig_pt, sig_mt, sig_agg, List.map_cons, List.map_nil, sig1_tr, sig1_pt, sig1_v, and_self, true_and, List.length_map, List.length_set]) ?_
    simp -dsimp -implicitDefEqProofs (disch := first | omega | (simp only [lenr]; done) | (simp only [lenr]; omega)) only [↓amPre, amAll, ↓reduceIte, reduceCtorEq, Nat.reduceEqDiff, Nat.reduceBEq, Nat.reduceAdd, Nat.reduceLeDiff, Nat.reduceSub, Nat.reduceMul, Int.reduceToNat, List.size_toArray, tyF, MM, bu0, ipure, kpure, tpure, sspure, kset, tset, ksnoc, tsnoc, Kind.av, Twist.sl, Twist.tr, Invar.av, stsize, stget, sttl, stapp, stext, tsspure, Model.sl, Model.tr, vset, vsnoc, vpure, Puzz.sl, Puzz.tr]
    refine callP_of (q0) ?_
    simp -dsimp -implicitDefEqProofs (disch := first | omega | (simp only [lenr]; done) | (simp only [lenr]; omega)) only [↓amPre, amAll, ↓reduceIte, reduceCtorEq, Nat.reduceEqDiff, Nat.reduceBEq, Nat.reduceAdd, Nat.reduceLeDiff, Nat.reduceSub, Nat.reduceMul, Int.reduceToNat, List.size_toArray, tyF, MM, bu0, ipure, kpure, tpure, sspure, kset, tset, ksnoc, tsnoc, Kind.av, Twist.sl, Twist.tr, Invar.av, stsize, stget, sttl, stapp, stext, tsspure, Model.sl, Model.tr, vset, vsnoc, vpure, Puzz.sl, Puzz.tr]
  rw [decide_eq_true q1] at q0
  cases q2 : within x 0 2147483646 with
  | false =>
    have hn : ¬ canScr p x c := fun q => by rw [q.2.1] at q2; cases q2
    have hz : scrS p x c = [] := if_neg hn
    rw [decide_eq_false hn, hz]
    refine spec_of_awp_any (M := MM) (np := 3) (X := [3]) (fz := false) mixed Try.func40 rfl rfl (by decide) rfl (Nat.le_refl _) (by decide +kernel) (.inl rfl) (by first | trivial | simp only [sigsOk_nil, sigsOk_some, sigsOk_none, sig_tr, sig_pt, sig_mt, sig_agg, List.map_cons, List.map_nil, sig1_tr, sig1_pt, sig1_v, and_self, true_and, List.length_map, List.length_set]) ?_
    simp -dsimp -implicitDefEqProofs (disch := first | omega | (simp only [lenr]; done) | (simp only [lenr]; omega)) only [↓amPre, amAll, ↓reduceIte, reduceCtorEq, Nat.reduceEqDiff, Nat.reduceBEq, Nat.reduceAdd, Nat.reduceLeDiff, Nat.reduceSub, Nat.reduceMul, Int.reduceToNat, List.size_toArray, tyF, MM, bu0, ipure, kpure, tpure, sspure, kset, tset, ksnoc, tsnoc, Kind.av, Twist.sl, Twist.tr, Invar.av, stsize, stget, sttl, stapp, stext, tsspure, Model.sl, Model.tr, vset, vsnoc, vpure, Puzz.sl, Puzz.tr]
    refine callP_of (q0) ?_
    simp -dsimp -implicitDefEqProofs (disch := first | omega | (simp only [lenr]; done) | (simp only [lenr]; omega)) only [↓amPre, amAll, ↓reduceIte, reduceCtorEq, Nat.reduceEqDiff, Nat.reduceBEq, Nat.reduceAdd, Nat.reduceLeDiff, Nat.reduceSub, Nat.reduceMul, Int.reduceToNat, List.size_toArray, tyF, MM, bu0, ipure, kpure, tpure, sspure, kset, tset, ksnoc, tsnoc, Kind.av, Twist.sl, Twist.tr, Invar.av, stsize, stget, sttl, stapp, stext, tsspure, Model.sl, Model.tr, vset, vsnoc, vpure, Puzz.sl, Puzz.tr]
    refine callP_of (isSeedS x) ?_
    simp -dsimp -implicitDefEqProofs (disch := first | omega | (simp only [lenr]; done) | (simp only [lenr]; omega)) only [↓amPre, amAll, ↓reduceIte, reduceCtorEq, Nat.reduceEqDiff, Nat.reduceBEq, Nat.reduceAdd, Nat.reduceLeDiff, Nat.reduceSub, Nat.reduceMul, Int.reduceToNat, List.size_toArray, tyF, MM, bu0, ipure, kpure, tpure, sspure, kset, tset, ksnoc, tsnoc, Kind.av, Twist.sl, Twist.tr, Invar.av, stsize, stget, sttl, stapp, stext, tsspure, Model.sl, Model.tr, vset, vsnoc, vpure, Puzz.sl, Puzz.tr, q2]
  | true =>
    cases q3 : within c 0 200 with
    | false =>
      have hn : ¬ canScr p x c := fun q => by rw [q.2.2] at q3; cases q3
      have hz : scrS p x c = [] := if_neg hn
      rw [decide_eq_false hn, hz]
      refine spec_of_awp_any (M := MM) (np := 3) (X := [3]) (fz := false) mixed Try.func40 rfl rfl (by decide) rfl (Nat.le_refl _) (by decide +kernel) (.inl rfl) (by first | trivial | simp only [sigsOk_nil, sigsOk_some, sigsOk_none, sig_tr, sig_pt, sig_mt, sig_agg, List.map_cons, List.map_nil, sig1_tr, sig1_pt, sig1_v, and_self, true_and, List.length_map, List.length_set]) ?_
      simp -dsimp -implicitDefEqProofs (disch := first | omega | (simp only [lenr]; done) | (simp only [lenr]; omega)) only [↓amPre, amAll, ↓reduceIte, reduceCtorEq, Nat.reduceEqDiff, Nat.reduceBEq, Nat.reduceAdd, Nat.reduceLeDiff, Nat.reduceSub, Nat.reduceMul, Int.reduceToNat, List.size_toArray, tyF, MM, bu0, ipure, kpure, tpure, sspure, kset, tset, ksnoc, tsnoc, Kind.av, Twist.sl, Twist.tr, Invar.av, stsize, stget, sttl, stapp, stext, tsspure, Model.sl, Model.tr, vset, vsnoc, vpure, Puzz.sl, Puzz.tr]
      refine callP_of (q0) ?_
      simp -dsimp -implicitDefEqProofs (disch := first | omega | (simp only [lenr]; done) | (simp only [lenr]; omega)) only [↓amPre, amAll, ↓reduceIte, reduceCtorEq, Nat.reduceEqDiff, Nat.reduceBEq, Nat.reduceAdd, Nat.reduceLeDiff, Nat.reduceSub, Nat.reduceMul, Int.reduceToNat, List.size_toArray, tyF, MM, bu0, ipure, kpure, tpure, sspure, kset, tset, ksnoc, tsnoc, Kind.av, Twist.sl, Twist.tr, Invar.av, stsize, stget, sttl, stapp, stext, tsspure, Model.sl, Model.tr, vset, vsnoc, vpure, Puzz.sl, Puzz.tr]
      refine callP_of (isSeedS x) ?_
      simp -dsimp -implicitDefEqProofs (disch := first | omega | (simp only [lenr]; done) | (simp only [lenr]; omega)) only [↓amPre, amAll, ↓reduceIte, reduceCtorEq, Nat.reduceEqDiff, Nat.reduceBEq, Nat.reduceAdd, Nat.reduceLeDiff, Nat.reduceSub, Nat.reduceMul, Int.reduceToNat, List.size_toArray, tyF, MM, bu0, ipure, kpure, tpure, sspure, kset, tset, ksnoc, tsnoc, Kind.av, Twist.sl, Twist.tr, Invar.av, stsize, stget, sttl, stapp, stext, tsspure, Model.sl, Model.tr, vset, vsnoc, vpure, Puzz.sl, Puzz.tr, q2]
      refine callP_of (isLenS c) ?_
      simp -dsimp -implicitDefEqProofs (disch := first | omega | (simp only [lenr]; done) | (simp only [lenr]; omega)) only [↓amPre, amAll, ↓reduceIte, reduceCtorEq, Nat.reduceEqDiff, Nat.reduceBEq, Nat.reduceAdd, Nat.reduceLeDiff, Nat.reduceSub, Nat.reduceMul, Int.reduceToNat, List.size_toArray, tyF, MM, bu0, ipure, kpure, tpure, sspure, kset, tset, ksnoc, tsnoc, Kind.av, Twist.sl, Twist.tr, Invar.av, stsize, stget, sttl, stapp, stext, tsspure, Model.sl, Model.tr, vset, vsnoc, vpure, Puzz.sl, Puzz.tr, q3]
    | true =>
      have hd : canScr p x c := ⟨q1, q2, q3⟩
      have hx := within_iff.1 q2
      have hc := within_iff.1 q3
      have hwd := scrR_word hd
      have hrl := scrR_len p x c
      have hz : scrS p x c = effK p.n p.mv (scrR p x c) (scrR p x c).length := if_pos hd
      have hr : scrR p x c = scrW p.mv.length x c.toNat := if_pos hd
      have hek := effK_ok q1.1 hwd.1 (scrR p x c).length (Nat.le_refl _)
      rw [← hz] at hek
      obtain ⟨k, rfl⟩ : ∃ n : Nat, c = n := ⟨c.toNat, by omega⟩
      rw [Int.toNat_natCast] at hr
      have l1 := l24Word p x k (puzz_nm q1) hx.1 (by omega) (by omega)
      rw [← hr] at l1
      have hn := q1.1.1
      have hid : moveOk p.n (runI 0 p.n.toNat) := ⟨by rw [runI_len]; omega, run_perm (by omega) (by omega)⟩
      have l2 := sApplyWord p (runI 0 p.n.toNat) (scrR p x k) h q1 hid hwd.1 hwd.2
      rw [← hz, comp_id hek.2 (by have := hek.1; omega)] at l2
      rw [decide_eq_true hd]
      have l3 := sIdentity p.n.toNat (by omega)
      obtain ⟨pn, nm, mv⟩ := p
      simp only at hn l3 ⊢
      obtain ⟨n, rfl⟩ : ∃ n : Nat, pn = n := ⟨pn.toNat, by omega⟩
      simp only [Int.toNat_natCast] at l2 l3
      have hrn := runI_len 0 n
      generalize scrR ⟨n, nm, mv⟩ x k = R at l1 l2 hrl
      generalize scrS ⟨n, nm, mv⟩ x k = S at l2
      refine spec_of_awp_any (M := MM) (np := 3) (X := [3]) (fz := false) mixed Try.func40 rfl rfl (by decide) rfl (Nat.le_refl _) (by decide +kernel) (.inl rfl) (by first | trivial | simp only [sigsOk_nil, sigsOk_some, sigsOk_none, sig_tr, sig_pt, sig_mt, sig_agg, List.map_cons, List.map_nil, sig1_tr, sig1_pt, sig1_v, and_self, true_and, List.length_map, List.length_set]) ?_
      simp -dsimp -implicitDefEqProofs (disch := first | omega | (simp only [lenr]; done) | (simp only [lenr]; omega)) only [↓amPre, amAll, ↓reduceIte, reduceCtorEq, Nat.reduceEqDiff, Nat.reduceBEq, Nat.reduceAdd, Nat.reduceLeDiff, Nat.reduceSub, Nat.reduceMul, Int.reduceToNat, List.size_toArray, tyF, MM, bu0, ipure, kpure, tpure, sspure, kset, tset, ksnoc, tsnoc, Kind.av, Twist.sl, Twist.tr, Invar.av, stsize, stget, sttl, stapp, stext, tsspure, Model.sl, Model.tr, vset, vsnoc, vpure, Puzz.sl, Puzz.tr]
      refine callP_of (q0) ?_
      simp -dsimp -implicitDefEqProofs (disch := first | omega | (simp only [lenr]; done) | (simp only [lenr]; omega)) only [↓amPre, amAll, ↓reduceIte, reduceCtorEq, Nat.reduceEqDiff, Nat.reduceBEq, Nat.reduceAdd, Nat.reduceLeDiff, Nat.reduceSub, Nat.reduceMul, Int.reduceToNat, List.size_toArray, tyF, MM, bu0, ipure, kpure, tpure, sspure, kset, tset, ksnoc, tsnoc, Kind.av, Twist.sl, Twist.tr, Invar.av, stsize, stget, sttl, stapp, stext, tsspure, Model.sl, Model.tr, vset, vsnoc, vpure, Puzz.sl, Puzz.tr]
      refine callP_of (isSeedS x) ?_
      simp -dsimp -implicitDefEqProofs (disch := first | omega | (simp only [lenr]; done) | (simp only [lenr]; omega)) only [↓amPre, amAll, ↓reduceIte, reduceCtorEq, Nat.reduceEqDiff, Nat.reduceBEq, Nat.reduceAdd, Nat.reduceLeDiff, Nat.reduceSub, Nat.reduceMul, Int.reduceToNat, List.size_toArray, tyF, MM, bu0, ipure, kpure, tpure, sspure, kset, tset, ksnoc, tsnoc, Kind.av, Twist.sl, Twist.tr, Invar.av, stsize, stget, sttl, stapp, stext, tsspure, Model.sl, Model.tr, vset, vsnoc, vpure, Puzz.sl, Puzz.tr, q2]
      refine callP_of (isLenS k) ?_
      simp -dsimp -implicitDefEqProofs (disch := first | omega | (simp only [lenr]; done) | (simp only [lenr]; omega)) only [↓amPre, amAll, ↓reduceIte, reduceCtorEq, Nat.reduceEqDiff, Nat.reduceBEq, Nat.reduceAdd, Nat.reduceLeDiff, Nat.reduceSub, Nat.reduceMul, Int.reduceToNat, List.size_toArray, tyF, MM, bu0, ipure, kpure, tpure, sspure, kset, tset, ksnoc, tsnoc, Kind.av, Twist.sl, Twist.tr, Invar.av, stsize, stget, sttl, stapp, stext, tsspure, Model.sl, Model.tr, vset, vsnoc, vpure, Puzz.sl, Puzz.tr, q3]
      refine made_go 11 [[], [], [], [], [], [], [], [], [25, 29], [], []] (by decide +kernel) ?_
      simp -dsimp -implicitDefEqProofs (disch := first | omega | (simp only [lenr]; done) | (simp only [lenr]; omega)) only [↓amPre, amAll, ↓reduceIte, reduceCtorEq, Nat.reduceEqDiff, Nat.reduceBEq, Nat.reduceAdd, Nat.reduceLeDiff, Nat.reduceSub, Nat.reduceMul, Int.reduceToNat, List.size_toArray, tyF, MM, bu0, ipure, kpure, tpure, sspure, kset, tset, ksnoc, tsnoc, Kind.av, Twist.sl, Twist.tr, Invar.av, stsize, stget, sttl, stapp, stext, tsspure, Model.sl, Model.tr, vset, vsnoc, vpure, Puzz.sl, Puzz.tr]
      refine callP_of (l3) ?_
      simp -dsimp -implicitDefEqProofs (disch := first | omega | (simp only [lenr]; done) | (simp only [lenr]; omega)) only [↓amPre, amAll, ↓reduceIte, reduceCtorEq, Nat.reduceEqDiff, Nat.reduceBEq, Nat.reduceAdd, Nat.reduceLeDiff, Nat.reduceSub, Nat.reduceMul, Int.reduceToNat, List.size_toArray, tyF, MM, bu0, ipure, kpure, tpure, sspure, kset, tset, ksnoc, tsnoc, Kind.av, Twist.sl, Twist.tr, Invar.av, stsize, stget, sttl, stapp, stext, tsspure, Model.sl, Model.tr, vset, vsnoc, vpure, Puzz.sl, Puzz.tr, hrn]
      refine callP_of (l1) ?_
      simp -dsimp -implicitDefEqProofs (disch := first | omega | (simp only [lenr]; done) | (simp only [lenr]; omega)) only [↓amPre, amAll, ↓reduceIte, reduceCtorEq, Nat.reduceEqDiff, Nat.reduceBEq, Nat.reduceAdd, Nat.reduceLeDiff, Nat.reduceSub, Nat.reduceMul, Int.reduceToNat, List.size_toArray, tyF, MM, bu0, ipure, kpure, tpure, sspure, kset, tset, ksnoc, tsnoc, Kind.av, Twist.sl, Twist.tr, Invar.av, stsize, stget, sttl, stapp, stext, tsspure, Model.sl, Model.tr, vset, vsnoc, vpure, Puzz.sl, Puzz.tr, hrn]
      refine callP_of (l2) ?_
      simp -dsimp -implicitDefEqProofs (disch := first | omega | (simp only [lenr]; done) | (simp only [lenr]; omega)) only [↓amPre, amAll, ↓reduceIte, reduceCtorEq, Nat.reduceEqDiff, Nat.reduceBEq, Nat.reduceAdd, Nat.reduceLeDiff, Nat.reduceSub, Nat.reduceMul, Int.reduceToNat, List.size_toArray, tyF, MM, bu0, ipure, kpure, tpure, sspure, kset, tset, ksnoc, tsnoc, Kind.av, Twist.sl, Twist.tr, Invar.av, stsize, stget, sttl, stapp, stext, tsspure, Model.sl, Model.tr, vset, vsnoc, vpure, Puzz.sl, Puzz.tr]
end Go.AM
namespace Go.AM
/-! keys of states: their bytes -/
def skey (s : List Int) : ByteArray := pushB s
theorem pushB_go : ∀ (s : List Int) (r : ByteArray), s.foldl (fun r n => r.push (UInt8.ofNat n.toNat)) r = ⟨r.data ++ (s.map fun n => UInt8.ofNat n.toNat).toArray⟩
  | [], r => by cases r; simp
  | a :: l, r => by
    rw [List.foldl_cons, pushB_go l]
    cases r
    simp [ByteArray.push]
theorem skey_eq (s : List Int) : skey s = ⟨(s.map fun n => UInt8.ofNat n.toNat).toArray⟩ := by
  unfold skey pushB
  rw [pushB_go]
  congr 1
  show (#[] : Array UInt8) ++ _ = _
  simp
def smallE (s : List Int) : Prop := ∀ x ∈ s, 0 ≤ x ∧ x < 256
theorem map_inj_on {α β : Type} (f : α → β) : ∀ (a b : List α), (∀ x ∈ a, ∀ y ∈ b, f x = f y → x = y) → a.map f = b.map f → a = b
  | [], [], _, _ => rfl
  | [], _ :: _, _, h => by simp at h
  | _ :: _, [], _, h => by simp at h
  | x :: a, y :: b, hf, h => by
    simp only [List.map_cons, List.cons.injEq] at h
    rw [hf x (by simp) y (by simp) h.1, map_inj_on f a b (fun u hu v hv => hf u (by simp [hu]) v (by simp [hv])) h.2]
theorem skey_inj {a b : List Int} (ha : smallE a) (hb : smallE b) (h : skey a = skey b) : a = b := by
  rw [skey_eq, skey_eq] at h
  injection h with h
  have h2 : (a.map fun n => UInt8.ofNat n.toNat) = b.map fun n => UInt8.ofNat n.toNat := by
    have := congrArg Array.toList h
    simpa using this
  refine map_inj_on _ a b (fun x hx y hy e => ?_) h2
  have h3 := ha x hx
  have h4 := hb y hy
  have h5 := congrArg UInt8.toNat e
  simp at h5
  omega
open Classical in
noncomputable def seenM (S : List (List Int)) : Value → Option Value := fun v => if ∃ s ∈ S, v = .string (skey s) then some (.bool true) else none
theorem seenM_nil : seenM [] = fun _ => none := by
  funext v; unfold seenM
  rw [if_neg]; rintro ⟨s, h, _⟩; cases h
theorem seenM_upd (S : List (List Int)) (s : List Int) : updM (seenM S) (.string (skey s)) (.bool true) = seenM (S ++ [s]) := by
  funext v; unfold updM seenM
  by_cases h : v = .string (skey s)
  · rw [if_pos h, if_pos]; exact ⟨s, by simp, h⟩
  · rw [if_neg h]
    by_cases h2 : ∃ t ∈ S, v = .string (skey t)
    · rw [if_pos h2, if_pos]
      obtain ⟨t, ht, e⟩ := h2
      exact ⟨t, by simp [ht], e⟩
    · rw [if_neg h2, if_neg]
      rintro ⟨t, ht, e⟩
      rcases List.mem_append.1 ht with ht | ht
      · exact h2 ⟨t, ht, e⟩
      · rw [List.mem_singleton] at ht; subst ht; exact h e
theorem seenM_at {S : List (List Int)} (hS : ∀ s ∈ S, smallE s) {s : List Int} (hs : smallE s) : seenM S (.string (skey s)) = if s ∈ S then some (.bool true) else none := by
  unfold seenM
  by_cases h : s ∈ S
  · rw [if_pos h, if_pos]; exact ⟨s, h, rfl⟩
  · rw [if_neg h, if_neg]
    rintro ⟨t, ht, e⟩
    injection e with e
    rw [skey_inj hs (hS t ht) e] at h; exact h ht
def ixK (L : List (List Int)) (s : List Int) : Int := if s ∈ L then (L.idxOf s : Nat) else -1
theorem ix_hit {L : List (List Int)} {s : List Int} {k : Nat} (h1 : ∀ t ∈ L.take k, t ≠ s) (hk : k < L.length) (h2 : L.getD k default = s) : ixK L s = k := by
  have hm : s ∈ L := by rw [← h2]; exact mem_getD L k default hk
  unfold ixK
  rw [if_pos hm]
  congr 1
  have e : L = L.take k ++ s :: L.drop (k + 1) := by
    conv => lhs; rw [← List.take_append_drop k L]
    rw [List.drop_eq_getElem_cons hk, ← getD_eq L k default hk, h2]
  rw [e, List.idxOf_append, if_neg (fun q => h1 _ q rfl)]
  simp; omega
theorem ix_none {L : List (List Int)} {s : List Int} (h1 : ∀ t ∈ L, t ≠ s) : ixK L s = -1 := by
  unfold ixK; rw [if_neg]; exact fun q => h1 _ q rfl
theorem ix_neg (L : List (List Int)) (s : List Int) : (ixK L s < 0) = (s ∉ L) := by
  unfold ixK
  by_cases h : s ∈ L
  · rw [if_pos h]; simp [h]
  · rw [if_neg h]; simp [h]
end Go.AM
set_option maxRecDepth 8000
namespace Go.AM
open Go.Proofs
theorem keyB_str (s : ByteArray) : keyB true (.string s) = true := rfl
theorem keyB_int (n : Int) : keyB false (.int .i64 n) = true := rfl
theorem u8_all : ∀ l : List Int, (l.map AV.u8).all isU8 = true
  | [] => rfl
  | a :: l => by rw [List.map_cons, List.all_cons, u8_all l]; rfl
theorem u8_bytes : ∀ l : List Int, (l.map AV.u8).map byteV = l
  | [] => rfl
  | a :: l => by rw [List.map_cons, List.map_cons, u8_bytes l]; rfl
theorem u8_rep (n : Nat) (x : Int) : List.replicate n (AV.v (.int .u8 x)) = (List.replicate n x).map AV.u8 := by simp
theorem stateKeyI (s : List Int) (hs : smallE s) (hl : s.length ≤ 1099511627776) : SpecAt Try.prog 116 [isl s] (.v (.string (skey s))) := by
  refine spec_of_awp (M := MM) (np := 1) (fz := true) mixed Try.func116 rfl rfl (by decide) rfl (Nat.le_refl _) (by decide +kernel) (.inr ⟨rfl, rfl⟩) trivial ?_
  simp -dsimp -implicitDefEqProofs (disch := first | omega | (simp only [lenr]; done) | (simp only [lenr]; omega)) only [↓amPre, amAll, ↓reduceIte, reduceCtorEq, Nat.reduceEqDiff, Nat.reduceBEq, Nat.reduceAdd, Nat.reduceLeDiff, Nat.reduceSub, Nat.reduceMul, Int.reduceToNat, List.size_toArray, tyF, MM, bu0, ipure, kpure, tpure, sspure, kset, tset, ksnoc, tsnoc, Kind.av, Twist.sl, Twist.tr, Invar.av, stsize, stget, sttl, stapp, stext, tsspure, Model.sl, Model.tr, vset, vsnoc, vpure, Puzz.sl, Puzz.tr, keyB_str, keyB_int, u8_rep]
  refine awp_loop (fun k st => k ≤ s.length ∧ st.fr 11 = .i64 k ∧ st.fr 10 = .i64 s.length ∧ st.fr 9 = isl s ∧ st.fr 3 = .ref 8 [] 1 0 s.length ∧ st.mem 8 = some (.tr 1 ((mixL s (List.replicate s.length 0) k).map AV.u8))) (s.length) ?_ ?_
  · simp -dsimp -implicitDefEqProofs (disch := first | omega | (simp only [lenr]; done) | (simp only [lenr]; omega)) only [↓amPre, amAll, ↓reduceIte, reduceCtorEq, Nat.reduceEqDiff, Nat.reduceBEq, Nat.reduceAdd, Nat.reduceLeDiff, Nat.reduceSub, Nat.reduceMul, Int.reduceToNat, List.size_toArray, tyF, MM, bu0, ipure, kpure, tpure, sspure, kset, tset, ksnoc, tsnoc, Kind.av, Twist.sl, Twist.tr, Invar.av, stsize, stget, sttl, stapp, stext, tsspure, Model.sl, Model.tr, vset, vsnoc, vpure, Puzz.sl, Puzz.tr, keyB_str, keyB_int, mixL_zero]
    simp
  rintro k st _ ⟨hk, f11, f10, f9, f3, m8⟩
  have hr : s.length = (List.replicate s.length (0:Int)).length := by simp
  have hm := mixL_len s (List.replicate s.length 0) k hr
  by_cases hlt : k < s.length
  · have hx := hs _ (mem_getD s k 0 hlt)
    have hw : IntKind.u8.wrap (s.getD k 0) = s.getD k 0 := IntWalk.u8_in _ (by omega)
    have hset := mixL_set s (List.replicate s.length 0) k 0 hr (by omega)
    simp -dsimp -implicitDefEqProofs (disch := first | omega | (simp only [lenr]; done) | (simp only [lenr]; omega)) only [↓amPre, amAll, ↓reduceIte, reduceCtorEq, Nat.reduceEqDiff, Nat.reduceBEq, Nat.reduceAdd, Nat.reduceLeDiff, Nat.reduceSub, Nat.reduceMul, Int.reduceToNat, List.size_toArray, tyF, MM, bu0, ipure, kpure, tpure, sspure, kset, tset, ksnoc, tsnoc, Kind.av, Twist.sl, Twist.tr, Invar.av, stsize, stget, sttl, stapp, stext, tsspure, Model.sl, Model.tr, vset, vsnoc, vpure, Puzz.sl, Puzz.tr, keyB_str, keyB_int, f11, f10, f9, f3, m8, hm, hset, hw]
    repeat' (first | omega | rfl | exact i64c (by omega) | exact vic (by omega) | apply And.intro)
  · have hk' : k = s.length := by omega
    subst hk'
    have := mixL_all s (List.replicate s.length 0) s.length (by omega) (by simp)
    simp -dsimp -implicitDefEqProofs (disch := first | omega | (simp only [lenr]; done) | (simp only [lenr]; omega)) only [↓amPre, amAll, ↓reduceIte, reduceCtorEq, Nat.reduceEqDiff, Nat.reduceBEq, Nat.reduceAdd, Nat.reduceLeDiff, Nat.reduceSub, Nat.reduceMul, Int.reduceToNat, List.size_toArray, tyF, MM, bu0, ipure, kpure, tpure, sspure, kset, tset, ksnoc, tsnoc, Kind.av, Twist.sl, Twist.tr, Invar.av, stsize, stget, sttl, stapp, stext, tsspure, Model.sl, Model.tr, vset, vsnoc, vpure, Puzz.sl, Puzz.tr, keyB_str, keyB_int, f11, f10, f9, f3, m8, hm, this, u8_all, u8_bytes]
    try rfl
theorem indexOfS (L : List (List Int)) (s : List Int) (hL : L.length ≤ 1099511627776) (hl : ∀ t ∈ L, t.length ≤ 1099511627776) : SpecAt Try.prog 113 [ssl L, isl s] (.i64 (ixK L s)) := by
  refine spec_of_awp (M := MM) (np := 2) (fz := true) mixed Try.func113 rfl rfl (by decide) rfl (Nat.le_refl _) (by decide +kernel) (.inr ⟨rfl, rfl⟩) trivial ?_
  simp -dsimp -implicitDefEqProofs (disch := first | omega | (simp only [lenr]; done) | (simp only [lenr]; omega)) only [↓amPre, amAll, ↓reduceIte, reduceCtorEq, Nat.reduceEqDiff, Nat.reduceBEq, Nat.reduceAdd, Nat.reduceLeDiff, Nat.reduceSub, Nat.reduceMul, Int.reduceToNat, List.size_toArray, tyF, MM, bu0, ipure, kpure, tpure, sspure, kset, tset, ksnoc, tsnoc, Kind.av, Twist.sl, Twist.tr, Invar.av, stsize, stget, sttl, stapp, stext, tsspure, Model.sl, Model.tr, vset, vsnoc, vpure, Puzz.sl, Puzz.tr, keyB_str, keyB_int]
  refine awp_loop (fun k st => k ≤ L.length ∧ st.fr 5 = .i64 k ∧ st.fr 0 = ssl L ∧ st.fr 1 = isl s ∧ ∀ t ∈ L.take k, t ≠ s) (L.length) ?_ ?_
  · simp -dsimp -implicitDefEqProofs (disch := first | omega | (simp only [lenr]; done) | (simp only [lenr]; omega)) only [↓amPre, amAll, ↓reduceIte, reduceCtorEq, Nat.reduceEqDiff, Nat.reduceBEq, Nat.reduceAdd, Nat.reduceLeDiff, Nat.reduceSub, Nat.reduceMul, Int.reduceToNat, List.size_toArray, tyF, MM, bu0, ipure, kpure, tpure, sspure, kset, tset, ksnoc, tsnoc, Kind.av, Twist.sl, Twist.tr, Invar.av, stsize, stget, sttl, stapp, stext, tsspure, Model.sl, Model.tr, vset, vsnoc, vpure, Puzz.sl, Puzz.tr, keyB_str, keyB_int]
    simp
  rintro k st _ ⟨hk, f5, f0, f1, ek⟩
  by_cases hlt : k < L.length
  · have hg := mem_take_succ (l := L) (d := default) (p := fun t => t ≠ s) hlt
    simp -dsimp -implicitDefEqProofs (disch := first | omega | (simp only [lenr]; done) | (simp only [lenr]; omega)) only [↓amPre, amAll, ↓reduceIte, reduceCtorEq, Nat.reduceEqDiff, Nat.reduceBEq, Nat.reduceAdd, Nat.reduceLeDiff, Nat.reduceSub, Nat.reduceMul, Int.reduceToNat, List.size_toArray, tyF, MM, bu0, ipure, kpure, tpure, sspure, kset, tset, ksnoc, tsnoc, Kind.av, Twist.sl, Twist.tr, Invar.av, stsize, stget, sttl, stapp, stext, tsspure, Model.sl, Model.tr, vset, vsnoc, vpure, Puzz.sl, Puzz.tr, keyB_str, keyB_int, f5, f0, f1]
    refine callP_of (sEqualInts (L.getD k default) s (hl _ (mem_getD L k default hlt))) ?_
    by_cases e : L.getD k default = s
    · simp -dsimp -implicitDefEqProofs (disch := first | omega | (simp only [lenr]; done) | (simp only [lenr]; omega)) only [↓amPre, amAll, ↓reduceIte, reduceCtorEq, Nat.reduceEqDiff, Nat.reduceBEq, Nat.reduceAdd, Nat.reduceLeDiff, Nat.reduceSub, Nat.reduceMul, Int.reduceToNat, List.size_toArray, tyF, MM, bu0, ipure, kpure, tpure, sspure, kset, tset, ksnoc, tsnoc, Kind.av, Twist.sl, Twist.tr, Invar.av, stsize, stget, sttl, stapp, stext, tsspure, Model.sl, Model.tr, vset, vsnoc, vpure, Puzz.sl, Puzz.tr, keyB_str, keyB_int, f5, f0, f1, decide_eq_true e, ix_hit ek hlt e]
    · simp -dsimp -implicitDefEqProofs (disch := first | omega | (simp only [lenr]; done) | (simp only [lenr]; omega)) only [↓amPre, amAll, ↓reduceIte, reduceCtorEq, Nat.reduceEqDiff, Nat.reduceBEq, Nat.reduceAdd, Nat.reduceLeDiff, Nat.reduceSub, Nat.reduceMul, Int.reduceToNat, List.size_toArray, tyF, MM, bu0, ipure, kpure, tpure, sspure, kset, tset, ksnoc, tsnoc, Kind.av, Twist.sl, Twist.tr, Invar.av, stsize, stget, sttl, stapp, stext, tsspure, Model.sl, Model.tr, vset, vsnoc, vpure, Puzz.sl, Puzz.tr, keyB_str, keyB_int, f5, f0, f1, decide_eq_false e]
      repeat' (first | omega | rfl | exact i64c (by omega) | exact vic (by omega) | exact hg.2 ⟨ek, e⟩ | apply And.intro)
  · have hk' : k = L.length := by omega
    subst hk'
    rw [List.take_length] at ek
    simp -dsimp -implicitDefEqProofs (disch := first | omega | (simp only [lenr]; done) | (simp only [lenr]; omega)) only [↓amPre, amAll, ↓reduceIte, reduceCtorEq, Nat.reduceEqDiff, Nat.reduceBEq, Nat.reduceAdd, Nat.reduceLeDiff, Nat.reduceSub, Nat.reduceMul, Int.reduceToNat, List.size_toArray, tyF, MM, bu0, ipure, kpure, tpure, sspure, kset, tset, ksnoc, tsnoc, Kind.av, Twist.sl, Twist.tr, Invar.av, stsize, stget, sttl, stapp, stext, tsspure, Model.sl, Model.tr, vset, vsnoc, vpure, Puzz.sl, Puzz.tr, keyB_str, keyB_int, f5, f0, f1, ix_none ek]
theorem heldInt64SS (l : List (List Int)) (k : Int) (h0 : 0 ≤ k) (h1 : k + cnts l ≤ 1099511627776) (hl : smallSS l) : SpecAt Try.prog 46 [ssl (mks k l), .i64 k] (.i64 (k + cnts l)) := by
  have hl0 := hl.1
  refine spec_of_awp (M := MM) (np := 2) (fz := true) mixed Try.func46 rfl rfl (by decide) rfl (Nat.le_refl _) (by decide +kernel) (.inr ⟨rfl, rfl⟩) trivial ?_
  simp -dsimp -implicitDefEqProofs (disch := first | omega | (simp only [lenr]; done) | (simp only [lenr]; omega)) only [↓amPre, amAll, ↓reduceIte, reduceCtorEq, Nat.reduceEqDiff, Nat.reduceBEq, Nat.reduceAdd, Nat.reduceLeDiff, Nat.reduceSub, Nat.reduceMul, Int.reduceToNat, List.size_toArray, tyF, MM, bu0, ipure, kpure, tpure, sspure, kset, tset, ksnoc, tsnoc, Kind.av, Twist.sl, Twist.tr, Invar.av, stsize, stget, sttl, stapp, stext, tsspure, Model.sl, Model.tr, vset, vsnoc, vpure, Puzz.sl, Puzz.tr, keyB_str, keyB_int]
  have hr := mks_len k l
  refine awp_loop (fun j st => j ≤ l.length ∧ st.fr 5 = .i64 j ∧ st.fr 1 = .i64 (k + cnts (l.take j)) ∧ st.fr 0 = ssl (mks k l)) (l.length) ?_ ?_
  · simp -dsimp -implicitDefEqProofs (disch := first | omega | (simp only [lenr]; done) | (simp only [lenr]; omega)) only [↓amPre, amAll, ↓reduceIte, reduceCtorEq, Nat.reduceEqDiff, Nat.reduceBEq, Nat.reduceAdd, Nat.reduceLeDiff, Nat.reduceSub, Nat.reduceMul, Int.reduceToNat, List.size_toArray, tyF, MM, bu0, ipure, kpure, tpure, sspure, kset, tset, ksnoc, tsnoc, Kind.av, Twist.sl, Twist.tr, Invar.av, stsize, stget, sttl, stapp, stext, tsspure, Model.sl, Model.tr, vset, vsnoc, vpure, Puzz.sl, Puzz.tr, keyB_str, keyB_int]
    simp [cnts]
  rintro j st _ ⟨hj, f5, f1, f0⟩
  by_cases hlt : j < l.length
  · have hg := mks_get k l j hlt
    rw [mk_ints] at hg
    have ct := cnts_take l j hlt
    have cl := cnts_le1 l j hlt
    rw [cnt_ints] at ct cl
    simp -dsimp -implicitDefEqProofs (disch := first | omega | (simp only [lenr]; done) | (simp only [lenr]; omega)) only [↓amPre, amAll, ↓reduceIte, reduceCtorEq, Nat.reduceEqDiff, Nat.reduceBEq, Nat.reduceAdd, Nat.reduceLeDiff, Nat.reduceSub, Nat.reduceMul, Int.reduceToNat, List.size_toArray, tyF, MM, bu0, ipure, kpure, tpure, sspure, kset, tset, ksnoc, tsnoc, Kind.av, Twist.sl, Twist.tr, Invar.av, stsize, stget, sttl, stapp, stext, tsspure, Model.sl, Model.tr, vset, vsnoc, vpure, Puzz.sl, Puzz.tr, keyB_str, keyB_int, f5, f1, f0, hr, hg]
    refine callP_of (heldInt64S (k + cnts (l.take j)) (l.getD j default).length (by omega) (by omega) (by omega)) ?_
    simp -dsimp -implicitDefEqProofs (disch := first | omega | (simp only [lenr]; done) | (simp only [lenr]; omega)) only [↓amPre, amAll, ↓reduceIte, reduceCtorEq, Nat.reduceEqDiff, Nat.reduceBEq, Nat.reduceAdd, Nat.reduceLeDiff, Nat.reduceSub, Nat.reduceMul, Int.reduceToNat, List.size_toArray, tyF, MM, bu0, ipure, kpure, tpure, sspure, kset, tset, ksnoc, tsnoc, Kind.av, Twist.sl, Twist.tr, Invar.av, stsize, stget, sttl, stapp, stext, tsspure, Model.sl, Model.tr, vset, vsnoc, vpure, Puzz.sl, Puzz.tr, keyB_str, keyB_int, f5, f1, f0, hr, hg]
    repeat' (first | omega | rfl | exact i64c (by omega) | exact vic (by omega) | apply And.intro)
  · have hj' : j = l.length := by omega
    subst hj'
    simp -dsimp -implicitDefEqProofs (disch := first | omega | (simp only [lenr]; done) | (simp only [lenr]; omega)) only [↓amPre, amAll, ↓reduceIte, reduceCtorEq, Nat.reduceEqDiff, Nat.reduceBEq, Nat.reduceAdd, Nat.reduceLeDiff, Nat.reduceSub, Nat.reduceMul, Int.reduceToNat, List.size_toArray, tyF, MM, bu0, ipure, kpure, tpure, sspure, kset, tset, ksnoc, tsnoc, Kind.av, Twist.sl, Twist.tr, Invar.av, stsize, stget, sttl, stapp, stext, tsspure, Model.sl, Model.tr, vset, vsnoc, vpure, Puzz.sl, Puzz.tr, keyB_str, keyB_int, f5, f1, f0, hr, List.take_length]
end Go.AM
set_option maxRecDepth 8000
namespace Go.AM
open Go.Proofs
def dsC (x n : Int) (k : Nat) (L : List (List Int)) : Prop := x + k < 2147483647 ∧ (L.length : Int) < n
instance (x n : Int) (k : Nat) (L : List (List Int)) : Decidable (dsC x n k L) := by unfold dsC; infer_instance
def dsS (p : Puzz) (x c n : Int) : Nat → List (List Int) × List (List Int)
  | 0 => ([], [])
  | k + 1 => if dsC x n k (dsS p x c n k).1 ∧ scrS p (x + k) c ∉ (dsS p x c n k).2 then ((dsS p x c n k).1 ++ [scrR p (x + k) c], (dsS p x c n k).2 ++ [scrS p (x + k) c]) else dsS p x c n k
theorem dsS_len (p : Puzz) (x c n : Int) : ∀ k, (dsS p x c n k).1.length = (dsS p x c n k).2.length ∧ (dsS p x c n k).1.length ≤ k
  | 0 => by simp [dsS]
  | k + 1 => by
    obtain ⟨h1, h2⟩ := dsS_len p x c n k
    rw [dsS]; split
    · simp; omega
    · omega
theorem dsS_stop (p : Puzz) (x c n : Int) (k : Nat) (h : ¬ dsC x n k (dsS p x c n k).1) : ∀ d, dsS p x c n (k + d) = dsS p x c n k
  | 0 => rfl
  | d + 1 => by
    have ih := dsS_stop p x c n k h d
    show dsS p x c n ((k + d) + 1) = _
    rw [dsS, if_neg, ih]
    rintro ⟨q, _⟩
    rw [ih] at q
    exact h ⟨by have := q.1; omega, q.2⟩
theorem scrS_small (p : Puzz) (x c : Int) : smallE (scrS p x c) := by
  intro y hy
  unfold scrS at hy
  split at hy
  · rename_i h
    have ho := effK_ok h.1.1 (scrR_word h).1 _ (Nat.le_refl _)
    have := ho.2.2.1 y hy
    have := ho.1
    have := h.1.1.1
    omega
  · cases hy
theorem dsS_mem (p : Puzz) (x c n : Int) : ∀ k, (∀ t ∈ (dsS p x c n k).1, t.length ≤ 200) ∧ (∀ t ∈ (dsS p x c n k).2, smallE t ∧ t.length ≤ 20)
  | 0 => by simp [dsS]
  | k + 1 => by
    obtain ⟨h1, h2⟩ := dsS_mem p x c n k
    rw [dsS]; split
    · refine ⟨fun t ht => ?_, fun t ht => ?_⟩
      · rcases List.mem_append.1 ht with ht | ht
        · exact h1 t ht
        · rw [List.mem_singleton.1 ht]; exact scrR_len p _ c
      · rcases List.mem_append.1 ht with ht | ht
        · exact h2 t ht
        · rw [List.mem_singleton.1 ht]; exact ⟨scrS_small p _ c, scrS_len p _ c⟩
    · exact ⟨h1, h2⟩
def canDs (p : Puzz) (x c n : Int) : Prop := canScr p x c ∧ within n 0 12 = true
instance (p : Puzz) (x c n : Int) : Decidable (canDs p x c n) := by unfold canDs; infer_instance
def dsR (p : Puzz) (x c n : Int) : List (List Int) := if canDs p x c n then (dsS p x c n 100).1 else []
theorem dsR_small (p : Puzz) (x c n : Int) : (dsR p x c n).length ≤ 100 ∧ ∀ t ∈ dsR p x c n, t.length ≤ 200 := by
  unfold dsR; split
  · exact ⟨(dsS_len p x c n 100).2, (dsS_mem p x c n 100).1⟩
  · simp
theorem ds_end {p : Puzz} {x c n : Int} {k : Nat} (hk : k ≤ 100) (h : k = 100 ∨ ¬ dsC x n k (dsS p x c n k).1) : dsS p x c n 100 = dsS p x c n k := by
  rcases h with h | h
  · rw [h]
  · have := dsS_stop p x c n k h (100 - k)
    rw [show k + (100 - k) = 100 by omega] at this
    exact this
theorem iDistinct (p : Puzz) (x c n : Int) (h : smallP p) : SpecAt Try.prog 43 [p.sl, .i64 x, .i64 c, .i64 n] (sst (dsR p x c n)) := by
  have q0 := canScramble p x c h
  by_cases hd : canScr p x c
  case neg =>
    have hz : dsR p x c n = [] := if_neg fun q => hd q.1
    rw [decide_eq_false hd] at q0
    rw [hz]
    refine spec_of_awp (M := MM) (np := 4) (fz := false) mixed Try.func43 rfl rfl (by decide) rfl (Nat.le_refl _) (by decide +kernel) (.inl rfl) (by first | trivial | simp only [sigsOk_nil, sigsOk_some, sigsOk_none, sig_tr, sig_pt, sig_mt, sig_agg, List.map_cons, List.map_nil, sig1_tr, sig1_pt, sig1_v, and_self, true_and, List.length_map, List.length_set]) ?_
    simp -dsimp -implicitDefEqProofs (disch := first | omega | (simp only [lenr]; done) | (simp only [lenr]; omega)) only [↓amPre, amAll, ↓reduceIte, reduceCtorEq, Nat.reduceEqDiff, Nat.reduceBEq, Nat.reduceAdd, Nat.reduceLeDiff, Nat.reduceSub, Nat.reduceMul, Int.reduceToNat, List.size_toArray, tyF, MM, bu0, ipure, kpure, tpure, sspure, kset, tset, ksnoc, tsnoc, Kind.av, Twist.sl, Twist.tr, Invar.av, stsize, stget, sttl, stapp, stext, tsspure, Model.sl, Model.tr, vset, vsnoc, vpure, Puzz.sl, Puzz.tr, keyB_str, keyB_int]
    refine callP_of (q0) ?_
    simp -dsimp -implicitDefEqProofs (disch := first | omega | (simp only [lenr]; done) | (simp only [lenr]; omega)) only [↓amPre, amAll, ↓reduceIte, reduceCtorEq, Nat.reduceEqDiff, Nat.reduceBEq, Nat.reduceAdd, Nat.reduceLeDiff, Nat.reduceSub, Nat.reduceMul, Int.reduceToNat, List.size_toArray, tyF, MM, bu0, ipure, kpure, tpure, sspure, kset, tset, ksnoc, tsnoc, Kind.av, Twist.sl, Twist.tr, Invar.av, stsize, stget, sttl, stapp, stext, tsspure, Model.sl, Model.tr, vset, vsnoc, vpure, Puzz.sl, Puzz.tr, keyB_str, keyB_int]
    try rfl
  rw [decide_eq_true hd] at q0
  cases hn : within n 0 12 with
  | false =>
    have hz : dsR p x c n = [] := if_neg fun q => by rw [q.2] at hn; cases hn
    rw [hz]
    refine spec_of_awp (M := MM) (np := 4) (fz := false) mixed Try.func43 rfl rfl (by decide) rfl (Nat.le_refl _) (by decide +kernel) (.inl rfl) (by first | trivial | simp only [sigsOk_nil, sigsOk_some, sigsOk_none, sig_tr, sig_pt, sig_mt, sig_agg, List.map_cons, List.map_nil, sig1_tr, sig1_pt, sig1_v, and_self, true_and, List.length_map, List.length_set]) ?_
    simp -dsimp -implicitDefEqProofs (disch := first | omega | (simp only [lenr]; done) | (simp only [lenr]; omega)) only [↓amPre, amAll, ↓reduceIte, reduceCtorEq, Nat.reduceEqDiff, Nat.reduceBEq, Nat.reduceAdd, Nat.reduceLeDiff, Nat.reduceSub, Nat.reduceMul, Int.reduceToNat, List.size_toArray, tyF, MM, bu0, ipure, kpure, tpure, sspure, kset, tset, ksnoc, tsnoc, Kind.av, Twist.sl, Twist.tr, Invar.av, stsize, stget, sttl, stapp, stext, tsspure, Model.sl, Model.tr, vset, vsnoc, vpure, Puzz.sl, Puzz.tr, keyB_str, keyB_int]
    refine callP_of (q0) ?_
    simp -dsimp -implicitDefEqProofs (disch := first | omega | (simp only [lenr]; done) | (simp only [lenr]; omega)) only [↓amPre, amAll, ↓reduceIte, reduceCtorEq, Nat.reduceEqDiff, Nat.reduceBEq, Nat.reduceAdd, Nat.reduceLeDiff, Nat.reduceSub, Nat.reduceMul, Int.reduceToNat, List.size_toArray, tyF, MM, bu0, ipure, kpure, tpure, sspure, kset, tset, ksnoc, tsnoc, Kind.av, Twist.sl, Twist.tr, Invar.av, stsize, stget, sttl, stapp, stext, tsspure, Model.sl, Model.tr, vset, vsnoc, vpure, Puzz.sl, Puzz.tr, keyB_str, keyB_int]
    refine callP_of (iwithin _ _ _) ?_
    simp -dsimp -implicitDefEqProofs (disch := first | omega | (simp only [lenr]; done) | (simp only [lenr]; omega)) only [↓amPre, amAll, ↓reduceIte, reduceCtorEq, Nat.reduceEqDiff, Nat.reduceBEq, Nat.reduceAdd, Nat.reduceLeDiff, Nat.reduceSub, Nat.reduceMul, Int.reduceToNat, List.size_toArray, tyF, MM, bu0, ipure, kpure, tpure, sspure, kset, tset, ksnoc, tsnoc, Kind.av, Twist.sl, Twist.tr, Invar.av, stsize, stget, sttl, stapp, stext, tsspure, Model.sl, Model.tr, vset, vsnoc, vpure, Puzz.sl, Puzz.tr, keyB_str, keyB_int, hn]
    try rfl
  | true =>
    have hz : dsR p x c n = (dsS p x c n 100).1 := if_pos ⟨hd, hn⟩
    have hn12 := within_iff.1 hn
    have hx := within_iff.1 hd.2.1
    have hc := within_iff.1 hd.2.2
    rw [hz]
    refine spec_of_awp (M := MM) (np := 4) (fz := false) mixed Try.func43 rfl rfl (by decide) rfl (Nat.le_refl _) (by decide +kernel) (.inl rfl) (by first | trivial | simp only [sigsOk_nil, sigsOk_some, sigsOk_none, sig_tr, sig_pt, sig_mt, sig_agg, List.map_cons, List.map_nil, sig1_tr, sig1_pt, sig1_v, and_self, true_and, List.length_map, List.length_set]) ?_
    simp -dsimp -implicitDefEqProofs (disch := first | omega | (simp only [lenr]; done) | (simp only [lenr]; omega)) only [↓amPre, amAll, ↓reduceIte, reduceCtorEq, Nat.reduceEqDiff, Nat.reduceBEq, Nat.reduceAdd, Nat.reduceLeDiff, Nat.reduceSub, Nat.reduceMul, Int.reduceToNat, List.size_toArray, tyF, MM, bu0, ipure, kpure, tpure, sspure, kset, tset, ksnoc, tsnoc, Kind.av, Twist.sl, Twist.tr, Invar.av, stsize, stget, sttl, stapp, stext, tsspure, Model.sl, Model.tr, vset, vsnoc, vpure, Puzz.sl, Puzz.tr, keyB_str, keyB_int]
    refine callP_of (q0) ?_
    simp -dsimp -implicitDefEqProofs (disch := first | omega | (simp only [lenr]; done) | (simp only [lenr]; omega)) only [↓amPre, amAll, ↓reduceIte, reduceCtorEq, Nat.reduceEqDiff, Nat.reduceBEq, Nat.reduceAdd, Nat.reduceLeDiff, Nat.reduceSub, Nat.reduceMul, Int.reduceToNat, List.size_toArray, tyF, MM, bu0, ipure, kpure, tpure, sspure, kset, tset, ksnoc, tsnoc, Kind.av, Twist.sl, Twist.tr, Invar.av, stsize, stget, sttl, stapp, stext, tsspure, Model.sl, Model.tr, vset, vsnoc, vpure, Puzz.sl, Puzz.tr, keyB_str, keyB_int]
    refine callP_of (iwithin _ _ _) ?_
    simp -dsimp -implicitDefEqProofs (disch := first | omega | (simp only [lenr]; done) | (simp only [lenr]; omega)) only [↓amPre, amAll, ↓reduceIte, reduceCtorEq, Nat.reduceEqDiff, Nat.reduceBEq, Nat.reduceAdd, Nat.reduceLeDiff, Nat.reduceSub, Nat.reduceMul, Int.reduceToNat, List.size_toArray, tyF, MM, bu0, ipure, kpure, tpure, sspure, kset, tset, ksnoc, tsnoc, Kind.av, Twist.sl, Twist.tr, Invar.av, stsize, stget, sttl, stapp, stext, tsspure, Model.sl, Model.tr, vset, vsnoc, vpure, Puzz.sl, Puzz.tr, keyB_str, keyB_int, hn]
    refine awp_loopN 9 60 1 (by simp -dsimp -implicitDefEqProofs (disch := first | omega | (simp only [lenr]; done) | (simp only [lenr]; omega)) only [↓amPre, amAll, ↓reduceIte, reduceCtorEq, Nat.reduceEqDiff, Nat.reduceBEq, Nat.reduceAdd, Nat.reduceLeDiff, Nat.reduceSub, Nat.reduceMul, Int.reduceToNat, List.size_toArray, tyF, MM, bu0, ipure, kpure, tpure, sspure, kset, tset, ksnoc, tsnoc, Kind.av, Twist.sl, Twist.tr, Invar.av, stsize, stget, sttl, stapp, stext, tsspure, Model.sl, Model.tr, vset, vsnoc, vpure, Puzz.sl, Puzz.tr, keyB_str, keyB_int]) (by decide) (fun k st => k ≤ 100 ∧ st.fr 11 = .i64 k ∧ st.fr 9 = .ref 60 [] 1 0 (dsS p x c n k).1.length ∧ st.fr 10 = .mref 24 [] ∧ st.fr 4 = .loc 4 [] 0 0 ∧ st.fr 1 = .i64 x ∧ st.fr 2 = .i64 c ∧ st.fr 3 = .i64 n ∧ st.mem 60 = some (sst (dsS p x c n k).1) ∧ st.mem 24 = some (.mt true (seenM (dsS p x c n k).2)) ∧ st.mem 4 = some (.pt 3 p.sl)) (100) ?_ ?_
    · simp -dsimp -implicitDefEqProofs (disch := first | omega | (simp only [lenr]; done) | (simp only [lenr]; omega)) only [↓amPre, amAll, ↓reduceIte, reduceCtorEq, Nat.reduceEqDiff, Nat.reduceBEq, Nat.reduceAdd, Nat.reduceLeDiff, Nat.reduceSub, Nat.reduceMul, Int.reduceToNat, List.size_toArray, tyF, MM, bu0, ipure, kpure, tpure, sspure, kset, tset, ksnoc, tsnoc, Kind.av, Twist.sl, Twist.tr, Invar.av, stsize, stget, sttl, stapp, stext, tsspure, Model.sl, Model.tr, vset, vsnoc, vpure, Puzz.sl, Puzz.tr, keyB_str, keyB_int, nilAs_eq]
      simp [dsS, seenM_nil]
    rintro k st _ ⟨hk, f11, f9, f10, f4, f1, f2, f3, m60, m24, m4⟩
    obtain ⟨hl1, hl2⟩ := dsS_len p x c n k
    obtain ⟨hm1, hm2⟩ := dsS_mem p x c n k
    have hse := ds_end (p := p) (x := x) (c := c) (n := n) hk
    have hst : dsS p x c n (k + 1) = if dsC x n k (dsS p x c n k).1 ∧ scrS p (x + k) c ∉ (dsS p x c n k).2 then ((dsS p x c n k).1 ++ [scrR p (x + k) c], (dsS p x c n k).2 ++ [scrS p (x + k) c]) else dsS p x c n k := rfl
    by_cases c1 : k < 100
    case neg =>
      have hke : k = 100 := by omega
      have hse := hse (.inl hke)
      rw [hse]
      generalize dsS p x c n k = D at *
      subst hke
      simp -dsimp -implicitDefEqProofs (disch := first | omega | (simp only [lenr]; done) | (simp only [lenr]; omega)) only [↓amPre, amAll, ↓reduceIte, reduceCtorEq, Nat.reduceEqDiff, Nat.reduceBEq, Nat.reduceAdd, Nat.reduceLeDiff, Nat.reduceSub, Nat.reduceMul, Int.reduceToNat, List.size_toArray, tyF, MM, bu0, ipure, kpure, tpure, sspure, kset, tset, ksnoc, tsnoc, Kind.av, Twist.sl, Twist.tr, Invar.av, stsize, stget, sttl, stapp, stext, tsspure, Model.sl, Model.tr, vset, vsnoc, vpure, Puzz.sl, Puzz.tr, keyB_str, keyB_int, f11, f9, f10, f4, f1, f2, f3, m60, m24, m4]
    have wseed := isSeedI (x + k)
    have hxk : (within (x + k) 0 2147483646 = true) ↔ x + k < 2147483647 := by rw [within_iff]; omega
    by_cases c2 : x + k < 2147483647
    case neg =>
      have hw : within (x + k) 0 2147483646 = false := by
        cases hq : within (x + k) 0 2147483646 with
        | false => rfl
        | true => exact absurd (hxk.1 hq) c2
      rw [hse (.inr fun q => c2 q.1)]
      generalize dsS p x c n k = D at *
      simp -dsimp -implicitDefEqProofs (disch := first | omega | (simp only [lenr]; done) | (simp only [lenr]; omega)) only [↓amPre, amAll, ↓reduceIte, reduceCtorEq, Nat.reduceEqDiff, Nat.reduceBEq, Nat.reduceAdd, Nat.reduceLeDiff, Nat.reduceSub, Nat.reduceMul, Int.reduceToNat, List.size_toArray, tyF, MM, bu0, ipure, kpure, tpure, sspure, kset, tset, ksnoc, tsnoc, Kind.av, Twist.sl, Twist.tr, Invar.av, stsize, stget, sttl, stapp, stext, tsspure, Model.sl, Model.tr, vset, vsnoc, vpure, Puzz.sl, Puzz.tr, keyB_str, keyB_int, f11, f9, f10, f4, f1, f2, f3, m60, m24, m4, c1]
      refine callP_of (wseed) ?_
      simp -dsimp -implicitDefEqProofs (disch := first | omega | (simp only [lenr]; done) | (simp only [lenr]; omega)) only [↓amPre, amAll, ↓reduceIte, reduceCtorEq, Nat.reduceEqDiff, Nat.reduceBEq, Nat.reduceAdd, Nat.reduceLeDiff, Nat.reduceSub, Nat.reduceMul, Int.reduceToNat, List.size_toArray, tyF, MM, bu0, ipure, kpure, tpure, sspure, kset, tset, ksnoc, tsnoc, Kind.av, Twist.sl, Twist.tr, Invar.av, stsize, stget, sttl, stapp, stext, tsspure, Model.sl, Model.tr, vset, vsnoc, vpure, Puzz.sl, Puzz.tr, keyB_str, keyB_int, f11, f9, f10, f4, f1, f2, f3, m60, m24, m4, hw]
    have hw := hxk.2 c2
    by_cases c3 : ((dsS p x c n k).1.length : Int) < n
    case neg =>
      rw [hse (.inr fun q => c3 q.2)]
      generalize dsS p x c n k = D at *
      simp -dsimp -implicitDefEqProofs (disch := first | omega | (simp only [lenr]; done) | (simp only [lenr]; omega)) only [↓amPre, amAll, ↓reduceIte, reduceCtorEq, Nat.reduceEqDiff, Nat.reduceBEq, Nat.reduceAdd, Nat.reduceLeDiff, Nat.reduceSub, Nat.reduceMul, Int.reduceToNat, List.size_toArray, tyF, MM, bu0, ipure, kpure, tpure, sspure, kset, tset, ksnoc, tsnoc, Kind.av, Twist.sl, Twist.tr, Invar.av, stsize, stget, sttl, stapp, stext, tsspure, Model.sl, Model.tr, vset, vsnoc, vpure, Puzz.sl, Puzz.tr, keyB_str, keyB_int, f11, f9, f10, f4, f1, f2, f3, m60, m24, m4, c1]
      refine callP_of (wseed) ?_
      simp -dsimp -implicitDefEqProofs (disch := first | omega | (simp only [lenr]; done) | (simp only [lenr]; omega)) only [↓amPre, amAll, ↓reduceIte, reduceCtorEq, Nat.reduceEqDiff, Nat.reduceBEq, Nat.reduceAdd, Nat.reduceLeDiff, Nat.reduceSub, Nat.reduceMul, Int.reduceToNat, List.size_toArray, tyF, MM, bu0, ipure, kpure, tpure, sspure, kset, tset, ksnoc, tsnoc, Kind.av, Twist.sl, Twist.tr, Invar.av, stsize, stget, sttl, stapp, stext, tsspure, Model.sl, Model.tr, vset, vsnoc, vpure, Puzz.sl, Puzz.tr, keyB_str, keyB_int, f11, f9, f10, f4, f1, f2, f3, m60, m24, m4, hw, c3]
    have hcc : dsC x n k (dsS p x c n k).1 := ⟨c2, c3⟩
    have hcs : canScr p (x + k) c := ⟨hd.1, hw, hd.2.2⟩
    have hr : scrR p (x + k) c = scrW p.mv.length (x + k) c.toNat := if_pos hcs
    have l1 := scramble p (x + k) c.toNat (puzz_nm hd.1) (by omega) (by omega) (by omega)
    rw [show ((c.toNat : Nat) : Int) = c by omega, ← hr] at l1
    have hwd := scrR_word hcs
    have l2 := iEffect p (scrR p (x + k) c) hd.1.1 hwd.1
    have hsz : scrS p (x + k) c = effK p.n p.mv (scrR p (x + k) c) (scrR p (x + k) c).length := if_pos hcs
    rw [← hsz] at l2
    have hsm := scrS_small p (x + k) c
    have hsl := scrS_len p (x + k) c
    have hrl := scrR_len p (x + k) c
    have l3 := stateKeyI (scrS p (x + k) c) hsm (by omega)
    have hsa := seenM_at (fun s hs => (hm2 s hs).1) hsm
    have hup := seenM_upd (dsS p x c n k).2 (scrS p (x + k) c)
    generalize scrS p (x + k) c = S at *
    generalize scrR p (x + k) c = R at *
    by_cases c4 : S ∈ (dsS p x c n k).2
    · rw [if_neg fun q => q.2 c4] at hst
      rw [if_pos c4] at hsa
      rw [← hst] at f9 m60 m24
      generalize dsS p x c n (k + 1) = E at *
      generalize dsS p x c n k = D at *
      subst hst
      simp -dsimp -implicitDefEqProofs (disch := first | omega | (simp only [lenr]; done) | (simp only [lenr]; omega)) only [↓amPre, amAll, ↓reduceIte, reduceCtorEq, Nat.reduceEqDiff, Nat.reduceBEq, Nat.reduceAdd, Nat.reduceLeDiff, Nat.reduceSub, Nat.reduceMul, Int.reduceToNat, List.size_toArray, tyF, MM, bu0, ipure, kpure, tpure, sspure, kset, tset, ksnoc, tsnoc, Kind.av, Twist.sl, Twist.tr, Invar.av, stsize, stget, sttl, stapp, stext, tsspure, Model.sl, Model.tr, vset, vsnoc, vpure, Puzz.sl, Puzz.tr, keyB_str, keyB_int, f11, f9, f10, f4, f1, f2, f3, m60, m24, m4, c1]
      refine callP_of (wseed) ?_
      simp -dsimp -implicitDefEqProofs (disch := first | omega | (simp only [lenr]; done) | (simp only [lenr]; omega)) only [↓amPre, amAll, ↓reduceIte, reduceCtorEq, Nat.reduceEqDiff, Nat.reduceBEq, Nat.reduceAdd, Nat.reduceLeDiff, Nat.reduceSub, Nat.reduceMul, Int.reduceToNat, List.size_toArray, tyF, MM, bu0, ipure, kpure, tpure, sspure, kset, tset, ksnoc, tsnoc, Kind.av, Twist.sl, Twist.tr, Invar.av, stsize, stget, sttl, stapp, stext, tsspure, Model.sl, Model.tr, vset, vsnoc, vpure, Puzz.sl, Puzz.tr, keyB_str, keyB_int, f11, f9, f10, f4, f1, f2, f3, m60, m24, m4, hw, c3]
      refine callP_of (l1) ?_
      simp -dsimp -implicitDefEqProofs (disch := first | omega | (simp only [lenr]; done) | (simp only [lenr]; omega)) only [↓amPre, amAll, ↓reduceIte, reduceCtorEq, Nat.reduceEqDiff, Nat.reduceBEq, Nat.reduceAdd, Nat.reduceLeDiff, Nat.reduceSub, Nat.reduceMul, Int.reduceToNat, List.size_toArray, tyF, MM, bu0, ipure, kpure, tpure, sspure, kset, tset, ksnoc, tsnoc, Kind.av, Twist.sl, Twist.tr, Invar.av, stsize, stget, sttl, stapp, stext, tsspure, Model.sl, Model.tr, vset, vsnoc, vpure, Puzz.sl, Puzz.tr, keyB_str, keyB_int, f11, f9, f10, f4, f1, f2, f3, m60, m24, m4]
      refine callP_of (l2) ?_
      simp -dsimp -implicitDefEqProofs (disch := first | omega | (simp only [lenr]; done) | (simp only [lenr]; omega)) only [↓amPre, amAll, ↓reduceIte, reduceCtorEq, Nat.reduceEqDiff, Nat.reduceBEq, Nat.reduceAdd, Nat.reduceLeDiff, Nat.reduceSub, Nat.reduceMul, Int.reduceToNat, List.size_toArray, tyF, MM, bu0, ipure, kpure, tpure, sspure, kset, tset, ksnoc, tsnoc, Kind.av, Twist.sl, Twist.tr, Invar.av, stsize, stget, sttl, stapp, stext, tsspure, Model.sl, Model.tr, vset, vsnoc, vpure, Puzz.sl, Puzz.tr, keyB_str, keyB_int, f11, f9, f10, f4, f1, f2, f3, m60, m24, m4]
      refine callP_of (l3) ?_
      simp -dsimp -implicitDefEqProofs (disch := first | omega | (simp only [lenr]; done) | (simp only [lenr]; omega)) only [↓amPre, amAll, ↓reduceIte, reduceCtorEq, Nat.reduceEqDiff, Nat.reduceBEq, Nat.reduceAdd, Nat.reduceLeDiff, Nat.reduceSub, Nat.reduceMul, Int.reduceToNat, List.size_toArray, tyF, MM, bu0, ipure, kpure, tpure, sspure, kset, tset, ksnoc, tsnoc, Kind.av, Twist.sl, Twist.tr, Invar.av, stsize, stget, sttl, stapp, stext, tsspure, Model.sl, Model.tr, vset, vsnoc, vpure, Puzz.sl, Puzz.tr, keyB_str, keyB_int, f11, f9, f10, f4, f1, f2, f3, m60, m24, m4, hsa]
      repeat' (first | omega | rfl | exact i64c (by omega) | exact vic (by omega) | apply And.intro)
    · rw [if_pos ⟨hcc, c4⟩] at hst
      rw [if_neg c4] at hsa
      have hl3 : (dsS p x c n (k + 1)).1.length = (dsS p x c n k).1.length + 1 := by rw [hst]; simp
      have e1 : (dsS p x c n k).1 ++ [R] = (dsS p x c n (k + 1)).1 := by rw [hst]
      have e2 : (dsS p x c n k).2 ++ [S] = (dsS p x c n (k + 1)).2 := by rw [hst]
      rw [e2] at hup
      clear hst
      generalize dsS p x c n (k + 1) = E at *
      generalize dsS p x c n k = D at *
      simp -dsimp -implicitDefEqProofs (disch := first | omega | (simp only [lenr]; done) | (simp only [lenr]; omega)) only [↓amPre, amAll, ↓reduceIte, reduceCtorEq, Nat.reduceEqDiff, Nat.reduceBEq, Nat.reduceAdd, Nat.reduceLeDiff, Nat.reduceSub, Nat.reduceMul, Int.reduceToNat, List.size_toArray, tyF, MM, bu0, ipure, kpure, tpure, sspure, kset, tset, ksnoc, tsnoc, Kind.av, Twist.sl, Twist.tr, Invar.av, stsize, stget, sttl, stapp, stext, tsspure, Model.sl, Model.tr, vset, vsnoc, vpure, Puzz.sl, Puzz.tr, keyB_str, keyB_int, f11, f9, f10, f4, f1, f2, f3, m60, m24, m4, c1]
      refine callP_of (wseed) ?_
      simp -dsimp -implicitDefEqProofs (disch := first | omega | (simp only [lenr]; done) | (simp only [lenr]; omega)) only [↓amPre, amAll, ↓reduceIte, reduceCtorEq, Nat.reduceEqDiff, Nat.reduceBEq, Nat.reduceAdd, Nat.reduceLeDiff, Nat.reduceSub, Nat.reduceMul, Int.reduceToNat, List.size_toArray, tyF, MM, bu0, ipure, kpure, tpure, sspure, kset, tset, ksnoc, tsnoc, Kind.av, Twist.sl, Twist.tr, Invar.av, stsize, stget, sttl, stapp, stext, tsspure, Model.sl, Model.tr, vset, vsnoc, vpure, Puzz.sl, Puzz.tr, keyB_str, keyB_int, f11, f9, f10, f4, f1, f2, f3, m60, m24, m4, hw, c3]
      refine callP_of (l1) ?_
      simp -dsimp -implicitDefEqProofs (disch := first | omega | (simp only [lenr]; done) | (simp only [lenr]; omega)) only [↓amPre, amAll, ↓reduceIte, reduceCtorEq, Nat.reduceEqDiff, Nat.reduceBEq, Nat.reduceAdd, Nat.reduceLeDiff, Nat.reduceSub, Nat.reduceMul, Int.reduceToNat, List.size_toArray, tyF, MM, bu0, ipure, kpure, tpure, sspure, kset, tset, ksnoc, tsnoc, Kind.av, Twist.sl, Twist.tr, Invar.av, stsize, stget, sttl, stapp, stext, tsspure, Model.sl, Model.tr, vset, vsnoc, vpure, Puzz.sl, Puzz.tr, keyB_str, keyB_int, f11, f9, f10, f4, f1, f2, f3, m60, m24, m4]
      refine callP_of (l2) ?_
      simp -dsimp -implicitDefEqProofs (disch := first | omega | (simp only [lenr]; done) | (simp only [lenr]; omega)) only [↓amPre, amAll, ↓reduceIte, reduceCtorEq, Nat.reduceEqDiff, Nat.reduceBEq, Nat.reduceAdd, Nat.reduceLeDiff, Nat.reduceSub, Nat.reduceMul, Int.reduceToNat, List.size_toArray, tyF, MM, bu0, ipure, kpure, tpure, sspure, kset, tset, ksnoc, tsnoc, Kind.av, Twist.sl, Twist.tr, Invar.av, stsize, stget, sttl, stapp, stext, tsspure, Model.sl, Model.tr, vset, vsnoc, vpure, Puzz.sl, Puzz.tr, keyB_str, keyB_int, f11, f9, f10, f4, f1, f2, f3, m60, m24, m4]
      refine callP_of (l3) ?_
      simp -dsimp -implicitDefEqProofs (disch := first | omega | (simp only [lenr]; done) | (simp only [lenr]; omega)) only [↓amPre, amAll, ↓reduceIte, reduceCtorEq, Nat.reduceEqDiff, Nat.reduceBEq, Nat.reduceAdd, Nat.reduceLeDiff, Nat.reduceSub, Nat.reduceMul, Int.reduceToNat, List.size_toArray, tyF, MM, bu0, ipure, kpure, tpure, sspure, kset, tset, ksnoc, tsnoc, Kind.av, Twist.sl, Twist.tr, Invar.av, stsize, stget, sttl, stapp, stext, tsspure, Model.sl, Model.tr, vset, vsnoc, vpure, Puzz.sl, Puzz.tr, keyB_str, keyB_int, f11, f9, f10, f4, f1, f2, f3, m60, m24, m4, hsa, hup, e1, hl3]
      repeat' (first | omega | rfl | exact i64c (by omega) | exact vic (by omega) | apply And.intro)
theorem sDistinct (p : Puzz) (x c n : Int) (h : smallP p) (hcI : intOk c) : SpecAt Try.prog 42 [p.sl, .i64 x, .i64 c, .i64 n] (sst (dsR p x c n)) := by
  have q0 := sPuzzle p h
  by_cases q1 : puzzOk p
  case neg =>
    have hz : dsR p x c n = [] := if_neg fun q => q1 q.1.1
    rw [decide_eq_false q1] at q0
    rw [hz]
    refine spec_of_awp (M := MM) (np := 4) (fz := false) mixed Try.func42 rfl rfl (by decide) rfl (Nat.le_refl _) (by decide +kernel) (.inl rfl) (by first | trivial | simp only [sigsOk_nil, sigsOk_some, sigsOk_none, sig_tr, sig_pt, sig_mt, sig_agg, List.map_cons, List.map_nil, sig1_tr, sig1_pt, sig1_v, and_self, true_and, List.length_map, List.length_set]) ?_
    simp -dsimp -implicitDefEqProofs (disch := first | omega | (simp only [lenr]; done) | (simp only [lenr]; omega)) only [↓amPre, amAll, ↓reduceIte, reduceCtorEq, Nat.reduceEqDiff, Nat.reduceBEq, Nat.reduceAdd, Nat.reduceLeDiff, Nat.reduceSub, Nat.reduceMul, Int.reduceToNat, List.size_toArray, tyF, MM, bu0, ipure, kpure, tpure, sspure, kset, tset, ksnoc, tsnoc, Kind.av, Twist.sl, Twist.tr, Invar.av, stsize, stget, sttl, stapp, stext, tsspure, Model.sl, Model.tr, vset, vsnoc, vpure, Puzz.sl, Puzz.tr, keyB_str, keyB_int]
    refine callP_of (q0) ?_
    simp -dsimp -implicitDefEqProofs (disch := first | omega | (simp only [lenr]; done) | (simp only [lenr]; omega)) only [↓amPre, amAll, ↓reduceIte, reduceCtorEq, Nat.reduceEqDiff, Nat.reduceBEq, Nat.reduceAdd, Nat.reduceLeDiff, Nat.reduceSub, Nat.reduceMul, Int.reduceToNat, List.size_toArray, tyF, MM, bu0, ipure, kpure, tpure, sspure, kset, tset, ksnoc, tsnoc, Kind.av, Twist.sl, Twist.tr, Invar.av, stsize, stget, sttl, stapp, stext, tsspure, Model.sl, Model.tr, vset, vsnoc, vpure, Puzz.sl, Puzz.tr, keyB_str, keyB_int]
  rw [decide_eq_true q1] at q0
  cases q2 : within x 0 2147483646 with
  | false =>
    have hz : dsR p x c n = [] := if_neg fun q => by rw [q.1.2.1] at q2; cases q2
    rw [hz]
    refine spec_of_awp (M := MM) (np := 4) (fz := false) mixed Try.func42 rfl rfl (by decide) rfl (Nat.le_refl _) (by decide +kernel) (.inl rfl) (by first | trivial | simp only [sigsOk_nil, sigsOk_some, sigsOk_none, sig_tr, sig_pt, sig_mt, sig_agg, List.map_cons, List.map_nil, sig1_tr, sig1_pt, sig1_v, and_self, true_and, List.length_map, List.length_set]) ?_
    simp -dsimp -implicitDefEqProofs (disch := first | omega | (simp only [lenr]; done) | (simp only [lenr]; omega)) only [↓amPre, amAll, ↓reduceIte, reduceCtorEq, Nat.reduceEqDiff, Nat.reduceBEq, Nat.reduceAdd, Nat.reduceLeDiff, Nat.reduceSub, Nat.reduceMul, Int.reduceToNat, List.size_toArray, tyF, MM, bu0, ipure, kpure, tpure, sspure, kset, tset, ksnoc, tsnoc, Kind.av, Twist.sl, Twist.tr, Invar.av, stsize, stget, sttl, stapp, stext, tsspure, Model.sl, Model.tr, vset, vsnoc, vpure, Puzz.sl, Puzz.tr, keyB_str, keyB_int]
    refine callP_of (q0) ?_
    simp -dsimp -implicitDefEqProofs (disch := first | omega | (simp only [lenr]; done) | (simp only [lenr]; omega)) only [↓amPre, amAll, ↓reduceIte, reduceCtorEq, Nat.reduceEqDiff, Nat.reduceBEq, Nat.reduceAdd, Nat.reduceLeDiff, Nat.reduceSub, Nat.reduceMul, Int.reduceToNat, List.size_toArray, tyF, MM, bu0, ipure, kpure, tpure, sspure, kset, tset, ksnoc, tsnoc, Kind.av, Twist.sl, Twist.tr, Invar.av, stsize, stget, sttl, stapp, stext, tsspure, Model.sl, Model.tr, vset, vsnoc, vpure, Puzz.sl, Puzz.tr, keyB_str, keyB_int]
    refine callP_of (isSeedS x) ?_
    simp -dsimp -implicitDefEqProofs (disch := first | omega | (simp only [lenr]; done) | (simp only [lenr]; omega)) only [↓amPre, amAll, ↓reduceIte, reduceCtorEq, Nat.reduceEqDiff, Nat.reduceBEq, Nat.reduceAdd, Nat.reduceLeDiff, Nat.reduceSub, Nat.reduceMul, Int.reduceToNat, List.size_toArray, tyF, MM, bu0, ipure, kpure, tpure, sspure, kset, tset, ksnoc, tsnoc, Kind.av, Twist.sl, Twist.tr, Invar.av, stsize, stget, sttl, stapp, stext, tsspure, Model.sl, Model.tr, vset, vsnoc, vpure, Puzz.sl, Puzz.tr, keyB_str, keyB_int, q2]
  | true =>
    cases q3 : within c 0 200 with
    | false =>
      have hz : dsR p x c n = [] := if_neg fun q => by rw [q.1.2.2] at q3; cases q3
      rw [hz]
      refine spec_of_awp (M := MM) (np := 4) (fz := false) mixed Try.func42 rfl rfl (by decide) rfl (Nat.le_refl _) (by decide +kernel) (.inl rfl) (by first | trivial | simp only [sigsOk_nil, sigsOk_some, sigsOk_none, sig_tr, sig_pt, sig_mt, sig_agg, List.map_cons, List.map_nil, sig1_tr, sig1_pt, sig1_v, and_self, true_and, List.length_map, List.length_set]) ?_
      simp -dsimp -implicitDefEqProofs (disch := first | omega | (simp only [lenr]; done) | (simp only [lenr]; omega)) only [↓amPre, amAll, ↓reduceIte, reduceCtorEq, Nat.reduceEqDiff, Nat.reduceBEq, Nat.reduceAdd, Nat.reduceLeDiff, Nat.reduceSub, Nat.reduceMul, Int.reduceToNat, List.size_toArray, tyF, MM, bu0, ipure, kpure, tpure, sspure, kset, tset, ksnoc, tsnoc, Kind.av, Twist.sl, Twist.tr, Invar.av, stsize, stget, sttl, stapp, stext, tsspure, Model.sl, Model.tr, vset, vsnoc, vpure, Puzz.sl, Puzz.tr, keyB_str, keyB_int]
      refine callP_of (q0) ?_
      simp -dsimp -implicitDefEqProofs (disch := first | omega | (simp only [lenr]; done) | (simp only [lenr]; omega)) only [↓amPre, amAll, ↓reduceIte, reduceCtorEq, Nat.reduceEqDiff, Nat.reduceBEq, Nat.reduceAdd, Nat.reduceLeDiff, Nat.reduceSub, Nat.reduceMul, Int.reduceToNat, List.size_toArray, tyF, MM, bu0, ipure, kpure, tpure, sspure, kset, tset, ksnoc, tsnoc, Kind.av, Twist.sl, Twist.tr, Invar.av, stsize, stget, sttl, stapp, stext, tsspure, Model.sl, Model.tr, vset, vsnoc, vpure, Puzz.sl, Puzz.tr, keyB_str, keyB_int]
      refine callP_of (isSeedS x) ?_
      simp -dsimp -implicitDefEqProofs (disch := first | omega | (simp only [lenr]; done) | (simp only [lenr]; omega)) only [↓amPre, amAll, ↓reduceIte, reduceCtorEq, Nat.reduceEqDiff, Nat.reduceBEq, Nat.reduceAdd, Nat.reduceLeDiff, Nat.reduceSub, Nat.reduceMul, Int.reduceToNat, List.size_toArray, tyF, MM, bu0, ipure, kpure, tpure, sspure, kset, tset, ksnoc, tsnoc, Kind.av, Twist.sl, Twist.tr, Invar.av, stsize, stget, sttl, stapp, stext, tsspure, Model.sl, Model.tr, vset, vsnoc, vpure, Puzz.sl, Puzz.tr, keyB_str, keyB_int, q2]
      refine callP_of (isLenS c) ?_
      simp -dsimp -implicitDefEqProofs (disch := first | omega | (simp only [lenr]; done) | (simp only [lenr]; omega)) only [↓amPre, amAll, ↓reduceIte, reduceCtorEq, Nat.reduceEqDiff, Nat.reduceBEq, Nat.reduceAdd, Nat.reduceLeDiff, Nat.reduceSub, Nat.reduceMul, Int.reduceToNat, List.size_toArray, tyF, MM, bu0, ipure, kpure, tpure, sspure, kset, tset, ksnoc, tsnoc, Kind.av, Twist.sl, Twist.tr, Invar.av, stsize, stget, sttl, stapp, stext, tsspure, Model.sl, Model.tr, vset, vsnoc, vpure, Puzz.sl, Puzz.tr, keyB_str, keyB_int, q3]
    | true =>
      have hd : canScr p x c := ⟨q1, q2, q3⟩
      cases hn : within n 0 12 with
      | false =>
        have hz : dsR p x c n = [] := if_neg fun q => by rw [q.2] at hn; cases hn
        rw [hz]
        refine spec_of_awp (M := MM) (np := 4) (fz := false) mixed Try.func42 rfl rfl (by decide) rfl (Nat.le_refl _) (by decide +kernel) (.inl rfl) (by first | trivial | simp only [sigsOk_nil, sigsOk_some, sigsOk_none, sig_tr, sig_pt, sig_mt, sig_agg, List.map_cons, List.map_nil, sig1_tr, sig1_pt, sig1_v, and_self, true_and, List.length_map, List.length_set]) ?_
        simp -dsimp -implicitDefEqProofs (disch := first | omega | (simp only [lenr]; done) | (simp only [lenr]; omega)) only [↓amPre, amAll, ↓reduceIte, reduceCtorEq, Nat.reduceEqDiff, Nat.reduceBEq, Nat.reduceAdd, Nat.reduceLeDiff, Nat.reduceSub, Nat.reduceMul, Int.reduceToNat, List.size_toArray, tyF, MM, bu0, ipure, kpure, tpure, sspure, kset, tset, ksnoc, tsnoc, Kind.av, Twist.sl, Twist.tr, Invar.av, stsize, stget, sttl, stapp, stext, tsspure, Model.sl, Model.tr, vset, vsnoc, vpure, Puzz.sl, Puzz.tr, keyB_str, keyB_int]
        refine callP_of (q0) ?_
        simp -dsimp -implicitDefEqProofs (disch := first | omega | (simp only [lenr]; done) | (simp only [lenr]; omega)) only [↓amPre, amAll, ↓reduceIte, reduceCtorEq, Nat.reduceEqDiff, Nat.reduceBEq, Nat.reduceAdd, Nat.reduceLeDiff, Nat.reduceSub, Nat.reduceMul, Int.reduceToNat, List.size_toArray, tyF, MM, bu0, ipure, kpure, tpure, sspure, kset, tset, ksnoc, tsnoc, Kind.av, Twist.sl, Twist.tr, Invar.av, stsize, stget, sttl, stapp, stext, tsspure, Model.sl, Model.tr, vset, vsnoc, vpure, Puzz.sl, Puzz.tr, keyB_str, keyB_int]
        refine callP_of (isSeedS x) ?_
        simp -dsimp -implicitDefEqProofs (disch := first | omega | (simp only [lenr]; done) | (simp only [lenr]; omega)) only [↓amPre, amAll, ↓reduceIte, reduceCtorEq, Nat.reduceEqDiff, Nat.reduceBEq, Nat.reduceAdd, Nat.reduceLeDiff, Nat.reduceSub, Nat.reduceMul, Int.reduceToNat, List.size_toArray, tyF, MM, bu0, ipure, kpure, tpure, sspure, kset, tset, ksnoc, tsnoc, Kind.av, Twist.sl, Twist.tr, Invar.av, stsize, stget, sttl, stapp, stext, tsspure, Model.sl, Model.tr, vset, vsnoc, vpure, Puzz.sl, Puzz.tr, keyB_str, keyB_int, q2]
        refine callP_of (isLenS c) ?_
        simp -dsimp -implicitDefEqProofs (disch := first | omega | (simp only [lenr]; done) | (simp only [lenr]; omega)) only [↓amPre, amAll, ↓reduceIte, reduceCtorEq, Nat.reduceEqDiff, Nat.reduceBEq, Nat.reduceAdd, Nat.reduceLeDiff, Nat.reduceSub, Nat.reduceMul, Int.reduceToNat, List.size_toArray, tyF, MM, bu0, ipure, kpure, tpure, sspure, kset, tset, ksnoc, tsnoc, Kind.av, Twist.sl, Twist.tr, Invar.av, stsize, stget, sttl, stapp, stext, tsspure, Model.sl, Model.tr, vset, vsnoc, vpure, Puzz.sl, Puzz.tr, keyB_str, keyB_int, q3]
        refine callP_of (inRange _ _ _) ?_
        simp -dsimp -implicitDefEqProofs (disch := first | omega | (simp only [lenr]; done) | (simp only [lenr]; omega)) only [↓amPre, amAll, ↓reduceIte, reduceCtorEq, Nat.reduceEqDiff, Nat.reduceBEq, Nat.reduceAdd, Nat.reduceLeDiff, Nat.reduceSub, Nat.reduceMul, Int.reduceToNat, List.size_toArray, tyF, MM, bu0, ipure, kpure, tpure, sspure, kset, tset, ksnoc, tsnoc, Kind.av, Twist.sl, Twist.tr, Invar.av, stsize, stget, sttl, stapp, stext, tsspure, Model.sl, Model.tr, vset, vsnoc, vpure, Puzz.sl, Puzz.tr, keyB_str, keyB_int, hn]
      | true =>
        have hz : dsR p x c n = (dsS p x c n 100).1 := if_pos ⟨hd, hn⟩
        have hn12 := within_iff.1 hn
        have hx := within_iff.1 hd.2.1
        have hc := within_iff.1 hd.2.2
        rw [hz]
        refine spec_of_awp (M := MM) (np := 4) (fz := false) mixed Try.func42 rfl rfl (by decide) rfl (Nat.le_refl _) (by decide +kernel) (.inl rfl) (by first | trivial | simp only [sigsOk_nil, sigsOk_some, sigsOk_none, sig_tr, sig_pt, sig_mt, sig_agg, List.map_cons, List.map_nil, sig1_tr, sig1_pt, sig1_v, and_self, true_and, List.length_map, List.length_set]) ?_
        simp -dsimp -implicitDefEqProofs (disch := first | omega | (simp only [lenr]; done) | (simp only [lenr]; omega)) only [↓amPre, amAll, ↓reduceIte, reduceCtorEq, Nat.reduceEqDiff, Nat.reduceBEq, Nat.reduceAdd, Nat.reduceLeDiff, Nat.reduceSub, Nat.reduceMul, Int.reduceToNat, List.size_toArray, tyF, MM, bu0, ipure, kpure, tpure, sspure, kset, tset, ksnoc, tsnoc, Kind.av, Twist.sl, Twist.tr, Invar.av, stsize, stget, sttl, stapp, stext, tsspure, Model.sl, Model.tr, vset, vsnoc, vpure, Puzz.sl, Puzz.tr, keyB_str, keyB_int]
        refine callP_of (q0) ?_
        simp -dsimp -implicitDefEqProofs (disch := first | omega | (simp only [lenr]; done) | (simp only [lenr]; omega)) only [↓amPre, amAll, ↓reduceIte, reduceCtorEq, Nat.reduceEqDiff, Nat.reduceBEq, Nat.reduceAdd, Nat.reduceLeDiff, Nat.reduceSub, Nat.reduceMul, Int.reduceToNat, List.size_toArray, tyF, MM, bu0, ipure, kpure, tpure, sspure, kset, tset, ksnoc, tsnoc, Kind.av, Twist.sl, Twist.tr, Invar.av, stsize, stget, sttl, stapp, stext, tsspure, Model.sl, Model.tr, vset, vsnoc, vpure, Puzz.sl, Puzz.tr, keyB_str, keyB_int]
        refine callP_of (isSeedS x) ?_
        simp -dsimp -implicitDefEqProofs (disch := first | omega | (simp only [lenr]; done) | (simp only [lenr]; omega)) only [↓amPre, amAll, ↓reduceIte, reduceCtorEq, Nat.reduceEqDiff, Nat.reduceBEq, Nat.reduceAdd, Nat.reduceLeDiff, Nat.reduceSub, Nat.reduceMul, Int.reduceToNat, List.size_toArray, tyF, MM, bu0, ipure, kpure, tpure, sspure, kset, tset, ksnoc, tsnoc, Kind.av, Twist.sl, Twist.tr, Invar.av, stsize, stget, sttl, stapp, stext, tsspure, Model.sl, Model.tr, vset, vsnoc, vpure, Puzz.sl, Puzz.tr, keyB_str, keyB_int, q2]
        refine callP_of (isLenS c) ?_
        simp -dsimp -implicitDefEqProofs (disch := first | omega | (simp only [lenr]; done) | (simp only [lenr]; omega)) only [↓amPre, amAll, ↓reduceIte, reduceCtorEq, Nat.reduceEqDiff, Nat.reduceBEq, Nat.reduceAdd, Nat.reduceLeDiff, Nat.reduceSub, Nat.reduceMul, Int.reduceToNat, List.size_toArray, tyF, MM, bu0, ipure, kpure, tpure, sspure, kset, tset, ksnoc, tsnoc, Kind.av, Twist.sl, Twist.tr, Invar.av, stsize, stget, sttl, stapp, stext, tsspure, Model.sl, Model.tr, vset, vsnoc, vpure, Puzz.sl, Puzz.tr, keyB_str, keyB_int, q3]
        refine callP_of (inRange _ _ _) ?_
        simp -dsimp -implicitDefEqProofs (disch := first | omega | (simp only [lenr]; done) | (simp only [lenr]; omega)) only [↓amPre, amAll, ↓reduceIte, reduceCtorEq, Nat.reduceEqDiff, Nat.reduceBEq, Nat.reduceAdd, Nat.reduceLeDiff, Nat.reduceSub, Nat.reduceMul, Int.reduceToNat, List.size_toArray, tyF, MM, bu0, ipure, kpure, tpure, sspure, kset, tset, ksnoc, tsnoc, Kind.av, Twist.sl, Twist.tr, Invar.av, stsize, stget, sttl, stapp, stext, tsspure, Model.sl, Model.tr, vset, vsnoc, vpure, Puzz.sl, Puzz.tr, keyB_str, keyB_int, hn]
        refine awp_loop (fun k st => k ≤ 100 ∧ st.fr 11 = .i64 k ∧ st.fr 4 = .loc 4 [] 0 0 ∧ st.fr 1 = .i64 x ∧ st.fr 2 = .i64 c ∧ st.fr 3 = .i64 n ∧ st.mem 4 = some (.pt 3 p.sl) ∧ (((dsS p x c n k).1 = [] ∧ (dsS p x c n k).2 = [] ∧ st.fr 9 = .ref 14 [] 1 0 0 ∧ st.mem 14 = some (.tr 1 []) ∧ st.fr 10 = .ref 34 [] 1 0 0 ∧ st.mem 34 = some (.tr 1 [])) ∨ (st.fr 9 = .ref 76 [] 1 0 (dsS p x c n k).1.length ∧ st.mem 76 = some (sst (dsS p x c n k).1) ∧ st.fr 10 = .ref 67 [] 1 0 (dsS p x c n k).2.length ∧ st.mem 67 = some (sst (dsS p x c n k).2)))) (100) ?_ ?_
        · simp -dsimp -implicitDefEqProofs (disch := first | omega | (simp only [lenr]; done) | (simp only [lenr]; omega)) only [↓amPre, amAll, ↓reduceIte, reduceCtorEq, Nat.reduceEqDiff, Nat.reduceBEq, Nat.reduceAdd, Nat.reduceLeDiff, Nat.reduceSub, Nat.reduceMul, Int.reduceToNat, List.size_toArray, tyF, MM, bu0, ipure, kpure, tpure, sspure, kset, tset, ksnoc, tsnoc, Kind.av, Twist.sl, Twist.tr, Invar.av, stsize, stget, sttl, stapp, stext, tsspure, Model.sl, Model.tr, vset, vsnoc, vpure, Puzz.sl, Puzz.tr, keyB_str, keyB_int]
          simp [dsS]
        rintro k st _ ⟨hk, f11, f4, f1, f2, f3, m4, ek⟩
        obtain ⟨hl1, hl2⟩ := dsS_len p x c n k
        obtain ⟨hm1, hm2⟩ := dsS_mem p x c n k
        have hse := ds_end (p := p) (x := x) (c := c) (n := n) hk
        have hst : dsS p x c n (k + 1) = if dsC x n k (dsS p x c n k).1 ∧ scrS p (x + k) c ∉ (dsS p x c n k).2 then ((dsS p x c n k).1 ++ [scrR p (x + k) c], (dsS p x c n k).2 ++ [scrS p (x + k) c]) else dsS p x c n k := rfl
        by_cases c1 : k < 100
        case neg =>
          have hke : k = 100 := by omega
          have hse := hse (.inl hke)
          rw [hse]
          generalize dsS p x c n k = D at *
          subst hke
          rcases ek with ⟨e1, e2, g9, g14, g10, g34⟩ | ⟨g9, g76, g10, g67⟩
          · simp -dsimp -implicitDefEqProofs (disch := first | omega | (simp only [lenr]; done) | (simp only [lenr]; omega)) only [↓amPre, amAll, ↓reduceIte, reduceCtorEq, Nat.reduceEqDiff, Nat.reduceBEq, Nat.reduceAdd, Nat.reduceLeDiff, Nat.reduceSub, Nat.reduceMul, Int.reduceToNat, List.size_toArray, tyF, MM, bu0, ipure, kpure, tpure, sspure, kset, tset, ksnoc, tsnoc, Kind.av, Twist.sl, Twist.tr, Invar.av, stsize, stget, sttl, stapp, stext, tsspure, Model.sl, Model.tr, vset, vsnoc, vpure, Puzz.sl, Puzz.tr, keyB_str, keyB_int, f11, f4, f1, f2, f3, m4, g9, g14, g10, g34, e1]
          · simp -dsimp -implicitDefEqProofs (disch := first | omega | (simp only [lenr]; done) | (simp only [lenr]; omega)) only [↓amPre, amAll, ↓reduceIte, reduceCtorEq, Nat.reduceEqDiff, Nat.reduceBEq, Nat.reduceAdd, Nat.reduceLeDiff, Nat.reduceSub, Nat.reduceMul, Int.reduceToNat, List.size_toArray, tyF, MM, bu0, ipure, kpure, tpure, sspure, kset, tset, ksnoc, tsnoc, Kind.av, Twist.sl, Twist.tr, Invar.av, stsize, stget, sttl, stapp, stext, tsspure, Model.sl, Model.tr, vset, vsnoc, vpure, Puzz.sl, Puzz.tr, keyB_str, keyB_int, f11, f4, f1, f2, f3, m4, g9, g76, g10, g67]
        have hxk : (within (x + k) 0 2147483646 = true) ↔ x + k < 2147483647 := by rw [within_iff]; omega
        by_cases c2 : x + k < 2147483647
        case neg =>
          rw [hse (.inr fun q => c2 q.1)]
          generalize dsS p x c n k = D at *
          rcases ek with ⟨e1, e2, g9, g14, g10, g34⟩ | ⟨g9, g76, g10, g67⟩
          · simp -dsimp -implicitDefEqProofs (disch := first | omega | (simp only [lenr]; done) | (simp only [lenr]; omega)) only [↓amPre, amAll, ↓reduceIte, reduceCtorEq, Nat.reduceEqDiff, Nat.reduceBEq, Nat.reduceAdd, Nat.reduceLeDiff, Nat.reduceSub, Nat.reduceMul, Int.reduceToNat, List.size_toArray, tyF, MM, bu0, ipure, kpure, tpure, sspure, kset, tset, ksnoc, tsnoc, Kind.av, Twist.sl, Twist.tr, Invar.av, stsize, stget, sttl, stapp, stext, tsspure, Model.sl, Model.tr, vset, vsnoc, vpure, Puzz.sl, Puzz.tr, keyB_str, keyB_int, f11, f4, f1, f2, f3, m4, g9, g14, g10, g34, e1, c1, c2]
          · simp -dsimp -implicitDefEqProofs (disch := first | omega | (simp only [lenr]; done) | (simp only [lenr]; omega)) only [↓amPre, amAll, ↓reduceIte, reduceCtorEq, Nat.reduceEqDiff, Nat.reduceBEq, Nat.reduceAdd, Nat.reduceLeDiff, Nat.reduceSub, Nat.reduceMul, Int.reduceToNat, List.size_toArray, tyF, MM, bu0, ipure, kpure, tpure, sspure, kset, tset, ksnoc, tsnoc, Kind.av, Twist.sl, Twist.tr, Invar.av, stsize, stget, sttl, stapp, stext, tsspure, Model.sl, Model.tr, vset, vsnoc, vpure, Puzz.sl, Puzz.tr, keyB_str, keyB_int, f11, f4, f1, f2, f3, m4, g9, g76, g10, g67, c1, c2]
        have hw := hxk.2 c2
        by_cases c3 : ((dsS p x c n k).1.length : Int) < n
        case neg =>
          rw [hse (.inr fun q => c3 q.2)]
          generalize dsS p x c n k = D at *
          rcases ek with ⟨e1, e2, g9, g14, g10, g34⟩ | ⟨g9, g76, g10, g67⟩
          · rw [e1] at c3
            have c3' : ¬ (0 : Int) < n := c3
            simp -dsimp -implicitDefEqProofs (disch := first | omega | (simp only [lenr]; done) | (simp only [lenr]; omega)) only [↓amPre, amAll, ↓reduceIte, reduceCtorEq, Nat.reduceEqDiff, Nat.reduceBEq, Nat.reduceAdd, Nat.reduceLeDiff, Nat.reduceSub, Nat.reduceMul, Int.reduceToNat, List.size_toArray, tyF, MM, bu0, ipure, kpure, tpure, sspure, kset, tset, ksnoc, tsnoc, Kind.av, Twist.sl, Twist.tr, Invar.av, stsize, stget, sttl, stapp, stext, tsspure, Model.sl, Model.tr, vset, vsnoc, vpure, Puzz.sl, Puzz.tr, keyB_str, keyB_int, f11, f4, f1, f2, f3, m4, g9, g14, g10, g34, e1, c1, c2, c3']
          · simp -dsimp -implicitDefEqProofs (disch := first | omega | (simp only [lenr]; done) | (simp only [lenr]; omega)) only [↓amPre, amAll, ↓reduceIte, reduceCtorEq, Nat.reduceEqDiff, Nat.reduceBEq, Nat.reduceAdd, Nat.reduceLeDiff, Nat.reduceSub, Nat.reduceMul, Int.reduceToNat, List.size_toArray, tyF, MM, bu0, ipure, kpure, tpure, sspure, kset, tset, ksnoc, tsnoc, Kind.av, Twist.sl, Twist.tr, Invar.av, stsize, stget, sttl, stapp, stext, tsspure, Model.sl, Model.tr, vset, vsnoc, vpure, Puzz.sl, Puzz.tr, keyB_str, keyB_int, f11, f4, f1, f2, f3, m4, g9, g76, g10, g67, c1, c2, c3]
        have hcc : dsC x n k (dsS p x c n k).1 := ⟨c2, c3⟩
        have hcs : canScr p (x + k) c := ⟨hd.1, hw, hd.2.2⟩
        have hr : scrR p (x + k) c = scrW p.mv.length (x + k) c.toNat := if_pos hcs
        have l1 := l24Word p (x + k) c.toNat (puzz_nm hd.1) (by omega) (by omega) (by omega)
        rw [show ((c.toNat : Nat) : Int) = c by omega, ← hr] at l1
        have l2 := sScrambledState p (x + k) c h
        rw [decide_eq_true hcs] at l2
        have hsm := scrS_small p (x + k) c
        have hsl := scrS_len p (x + k) c
        have hrl := scrR_len p (x + k) c
        have l3 := indexOfS (dsS p x c n k).2 (scrS p (x + k) c) (by omega) (fun t ht => by have := (hm2 t ht).2; omega)
        have hneg := ix_neg (dsS p x c n k).2 (scrS p (x + k) c)
        generalize scrS p (x + k) c = S at *
        generalize scrR p (x + k) c = R at *
        by_cases c4 : S ∈ (dsS p x c n k).2
        · rw [if_neg fun q => q.2 c4] at hst
          have hne : ¬ ixK (dsS p x c n k).2 S < 0 := by rw [hneg]; exact fun q => q c4
          rcases ek with ⟨e1, e2, _⟩ | ⟨g9, g76, g10, g67⟩
          · rw [e2] at c4; cases c4
          rw [← hst] at g9 g76 g10 g67
          generalize dsS p x c n (k + 1) = E at *
          generalize dsS p x c n k = D at *
          subst hst
          simp -dsimp -implicitDefEqProofs (disch := first | omega | (simp only [lenr]; done) | (simp only [lenr]; omega)) only [↓amPre, amAll, ↓reduceIte, reduceCtorEq, Nat.reduceEqDiff, Nat.reduceBEq, Nat.reduceAdd, Nat.reduceLeDiff, Nat.reduceSub, Nat.reduceMul, Int.reduceToNat, List.size_toArray, tyF, MM, bu0, ipure, kpure, tpure, sspure, kset, tset, ksnoc, tsnoc, Kind.av, Twist.sl, Twist.tr, Invar.av, stsize, stget, sttl, stapp, stext, tsspure, Model.sl, Model.tr, vset, vsnoc, vpure, Puzz.sl, Puzz.tr, keyB_str, keyB_int, f11, f4, f1, f2, f3, m4, g9, g76, g10, g67, c1, c2, c3]
          refine callP_of (l2) ?_
          simp -dsimp -implicitDefEqProofs (disch := first | omega | (simp only [lenr]; done) | (simp only [lenr]; omega)) only [↓amPre, amAll, ↓reduceIte, reduceCtorEq, Nat.reduceEqDiff, Nat.reduceBEq, Nat.reduceAdd, Nat.reduceLeDiff, Nat.reduceSub, Nat.reduceMul, Int.reduceToNat, List.size_toArray, tyF, MM, bu0, ipure, kpure, tpure, sspure, kset, tset, ksnoc, tsnoc, Kind.av, Twist.sl, Twist.tr, Invar.av, stsize, stget, sttl, stapp, stext, tsspure, Model.sl, Model.tr, vset, vsnoc, vpure, Puzz.sl, Puzz.tr, keyB_str, keyB_int, f11, f4, f1, f2, f3, m4, g9, g76, g10, g67, ssfz]
          refine callP_of (l3) ?_
          simp -dsimp -implicitDefEqProofs (disch := first | omega | (simp only [lenr]; done) | (simp only [lenr]; omega)) only [↓amPre, amAll, ↓reduceIte, reduceCtorEq, Nat.reduceEqDiff, Nat.reduceBEq, Nat.reduceAdd, Nat.reduceLeDiff, Nat.reduceSub, Nat.reduceMul, Int.reduceToNat, List.size_toArray, tyF, MM, bu0, ipure, kpure, tpure, sspure, kset, tset, ksnoc, tsnoc, Kind.av, Twist.sl, Twist.tr, Invar.av, stsize, stget, sttl, stapp, stext, tsspure, Model.sl, Model.tr, vset, vsnoc, vpure, Puzz.sl, Puzz.tr, keyB_str, keyB_int, f11, f4, f1, f2, f3, m4, g9, g76, g10, g67, hne]
          repeat' (first | omega | rfl | exact i64c (by omega) | exact vic (by omega) | apply And.intro)
        · rw [if_pos ⟨hcc, c4⟩] at hst
          have hne : ixK (dsS p x c n k).2 S < 0 := by rw [hneg]; exact c4
          have hl3 : (dsS p x c n (k + 1)).1.length = (dsS p x c n k).1.length + 1 := by rw [hst]; simp
          have hl4 : (dsS p x c n (k + 1)).2.length = (dsS p x c n k).2.length + 1 := by rw [hst]; simp
          have e1 : (dsS p x c n k).1 ++ [R] = (dsS p x c n (k + 1)).1 := by rw [hst]
          have e2 : (dsS p x c n k).2 ++ [S] = (dsS p x c n (k + 1)).2 := by rw [hst]
          clear hst
          generalize dsS p x c n (k + 1) = E at *
          generalize dsS p x c n k = D at *
          rcases ek with ⟨d1, d2, g9, g14, g10, g34⟩ | ⟨g9, g76, g10, g67⟩
          · rw [d1] at e1 hl3 c3
            rw [d2] at e2 hl4 l3 hne
            have c3' : (0 : Int) < n := c3
            simp only [List.nil_append] at e1 e2
            rw [← e1, ← e2]
            simp -dsimp -implicitDefEqProofs (disch := first | omega | (simp only [lenr]; done) | (simp only [lenr]; omega)) only [↓amPre, amAll, ↓reduceIte, reduceCtorEq, Nat.reduceEqDiff, Nat.reduceBEq, Nat.reduceAdd, Nat.reduceLeDiff, Nat.reduceSub, Nat.reduceMul, Int.reduceToNat, List.size_toArray, tyF, MM, bu0, ipure, kpure, tpure, sspure, kset, tset, ksnoc, tsnoc, Kind.av, Twist.sl, Twist.tr, Invar.av, stsize, stget, sttl, stapp, stext, tsspure, Model.sl, Model.tr, vset, vsnoc, vpure, Puzz.sl, Puzz.tr, keyB_str, keyB_int, f11, f4, f1, f2, f3, m4, g9, g14, g10, g34, c1, c2, c3']
            refine callP_of (l2) ?_
            simp -dsimp -implicitDefEqProofs (disch := first | omega | (simp only [lenr]; done) | (simp only [lenr]; omega)) only [↓amPre, amAll, ↓reduceIte, reduceCtorEq, Nat.reduceEqDiff, Nat.reduceBEq, Nat.reduceAdd, Nat.reduceLeDiff, Nat.reduceSub, Nat.reduceMul, Int.reduceToNat, List.size_toArray, tyF, MM, bu0, ipure, kpure, tpure, sspure, kset, tset, ksnoc, tsnoc, Kind.av, Twist.sl, Twist.tr, Invar.av, stsize, stget, sttl, stapp, stext, tsspure, Model.sl, Model.tr, vset, vsnoc, vpure, Puzz.sl, Puzz.tr, keyB_str, keyB_int, f11, f4, f1, f2, f3, m4, g9, g14, g10, g34]
            refine callP_of (l3) ?_
            simp -dsimp -implicitDefEqProofs (disch := first | omega | (simp only [lenr]; done) | (simp only [lenr]; omega)) only [↓amPre, amAll, ↓reduceIte, reduceCtorEq, Nat.reduceEqDiff, Nat.reduceBEq, Nat.reduceAdd, Nat.reduceLeDiff, Nat.reduceSub, Nat.reduceMul, Int.reduceToNat, List.size_toArray, tyF, MM, bu0, ipure, kpure, tpure, sspure, kset, tset, ksnoc, tsnoc, Kind.av, Twist.sl, Twist.tr, Invar.av, stsize, stget, sttl, stapp, stext, tsspure, Model.sl, Model.tr, vset, vsnoc, vpure, Puzz.sl, Puzz.tr, keyB_str, keyB_int, f11, f4, f1, f2, f3, m4, g9, g14, g10, g34, hne]
            refine callP_of (l1) ?_
            simp -dsimp -implicitDefEqProofs (disch := first | omega | (simp only [lenr]; done) | (simp only [lenr]; omega)) only [↓amPre, amAll, ↓reduceIte, reduceCtorEq, Nat.reduceEqDiff, Nat.reduceBEq, Nat.reduceAdd, Nat.reduceLeDiff, Nat.reduceSub, Nat.reduceMul, Int.reduceToNat, List.size_toArray, tyF, MM, bu0, ipure, kpure, tpure, sspure, kset, tset, ksnoc, tsnoc, Kind.av, Twist.sl, Twist.tr, Invar.av, stsize, stget, sttl, stapp, stext, tsspure, Model.sl, Model.tr, vset, vsnoc, vpure, Puzz.sl, Puzz.tr, keyB_str, keyB_int, f11, f4, f1, f2, f3, m4, g9, g14, g10, g34]
            repeat' (first | omega | rfl | exact i64c (by omega) | exact vic (by omega) | apply And.intro)
          · simp -dsimp -implicitDefEqProofs (disch := first | omega | (simp only [lenr]; done) | (simp only [lenr]; omega)) only [↓amPre, amAll, ↓reduceIte, reduceCtorEq, Nat.reduceEqDiff, Nat.reduceBEq, Nat.reduceAdd, Nat.reduceLeDiff, Nat.reduceSub, Nat.reduceMul, Int.reduceToNat, List.size_toArray, tyF, MM, bu0, ipure, kpure, tpure, sspure, kset, tset, ksnoc, tsnoc, Kind.av, Twist.sl, Twist.tr, Invar.av, stsize, stget, sttl, stapp, stext, tsspure, Model.sl, Model.tr, vset, vsnoc, vpure, Puzz.sl, Puzz.tr, keyB_str, keyB_int, f11, f4, f1, f2, f3, m4, g9, g76, g10, g67, c1, c2, c3]
            refine callP_of (l2) ?_
            simp -dsimp -implicitDefEqProofs (disch := first | omega | (simp only [lenr]; done) | (simp only [lenr]; omega)) only [↓amPre, amAll, ↓reduceIte, reduceCtorEq, Nat.reduceEqDiff, Nat.reduceBEq, Nat.reduceAdd, Nat.reduceLeDiff, Nat.reduceSub, Nat.reduceMul, Int.reduceToNat, List.size_toArray, tyF, MM, bu0, ipure, kpure, tpure, sspure, kset, tset, ksnoc, tsnoc, Kind.av, Twist.sl, Twist.tr, Invar.av, stsize, stget, sttl, stapp, stext, tsspure, Model.sl, Model.tr, vset, vsnoc, vpure, Puzz.sl, Puzz.tr, keyB_str, keyB_int, f11, f4, f1, f2, f3, m4, g9, g76, g10, g67, ssfz]
            refine callP_of (l3) ?_
            simp -dsimp -implicitDefEqProofs (disch := first | omega | (simp only [lenr]; done) | (simp only [lenr]; omega)) only [↓amPre, amAll, ↓reduceIte, reduceCtorEq, Nat.reduceEqDiff, Nat.reduceBEq, Nat.reduceAdd, Nat.reduceLeDiff, Nat.reduceSub, Nat.reduceMul, Int.reduceToNat, List.size_toArray, tyF, MM, bu0, ipure, kpure, tpure, sspure, kset, tset, ksnoc, tsnoc, Kind.av, Twist.sl, Twist.tr, Invar.av, stsize, stget, sttl, stapp, stext, tsspure, Model.sl, Model.tr, vset, vsnoc, vpure, Puzz.sl, Puzz.tr, keyB_str, keyB_int, f11, f4, f1, f2, f3, m4, g9, g76, g10, g67, hne]
            refine callP_of (l1) ?_
            simp -dsimp -implicitDefEqProofs (disch := first | omega | (simp only [lenr]; done) | (simp only [lenr]; omega)) only [↓amPre, amAll, ↓reduceIte, reduceCtorEq, Nat.reduceEqDiff, Nat.reduceBEq, Nat.reduceAdd, Nat.reduceLeDiff, Nat.reduceSub, Nat.reduceMul, Int.reduceToNat, List.size_toArray, tyF, MM, bu0, ipure, kpure, tpure, sspure, kset, tset, ksnoc, tsnoc, Kind.av, Twist.sl, Twist.tr, Invar.av, stsize, stget, sttl, stapp, stext, tsspure, Model.sl, Model.tr, vset, vsnoc, vpure, Puzz.sl, Puzz.tr, keyB_str, keyB_int, f11, f4, f1, f2, f3, m4, g9, g76, g10, g67, e1, e2, hl3, hl4]
            repeat' (first | omega | rfl | exact i64c (by omega) | exact vic (by omega) | apply And.intro)
theorem lawDistinct (p : Puzz) (x c n : Int) (hp : wfP p) (hx : intOk x) (hc : intOk c) (hn : intOk n) : SpecAt Try.prog 8 [p.sl, .i64 x, .i64 c, .i64 n] (.bl true) := by
  refine spec_of_awp_any (M := MM) (np := 4) (X := [10]) (fz := true) mixed Try.func8 rfl rfl (by decide) rfl (Nat.le_refl _) (by decide +kernel) (.inr ⟨rfl, rfl⟩) trivial ?_
  simp -dsimp -implicitDefEqProofs (disch := first | omega | (simp only [lenr]; done) | (simp only [lenr]; omega)) only [↓amPre, amAll, ↓reduceIte, reduceCtorEq, Nat.reduceEqDiff, Nat.reduceBEq, Nat.reduceAdd, Nat.reduceLeDiff, Nat.reduceSub, Nat.reduceMul, Int.reduceToNat, List.size_toArray, tyF, MM, bu0, ipure, kpure, tpure, sspure, kset, tset, ksnoc, tsnoc, Kind.av, Twist.sl, Twist.tr, Invar.av, stsize, stget, sttl, stapp, stext, tsspure, Model.sl, Model.tr, vset, vsnoc, vpure, Puzz.sl, Puzz.tr, keyB_str, keyB_int]
  refine callP_of (szPuzzle p 1048576 (by omega) (by omega) hp) ?_
  by_cases c1 : (1048576 : Int) - p.size < 0
  · simp -dsimp -implicitDefEqProofs (disch := first | omega | (simp only [lenr]; done) | (simp only [lenr]; omega)) only [↓amPre, amAll, ↓reduceIte, reduceCtorEq, Nat.reduceEqDiff, Nat.reduceBEq, Nat.reduceAdd, Nat.reduceLeDiff, Nat.reduceSub, Nat.reduceMul, Int.reduceToNat, List.size_toArray, tyF, MM, bu0, ipure, kpure, tpure, sspure, kset, tset, ksnoc, tsnoc, Kind.av, Twist.sl, Twist.tr, Invar.av, stsize, stget, sttl, stapp, stext, tsspure, Model.sl, Model.tr, vset, vsnoc, vpure, Puzz.sl, Puzz.tr, keyB_str, keyB_int, szR_neg c1]
  have c1' : 0 ≤ (1048576 : Int) - p.size := by omega
  have h := szP_small hp.1 (by omega) c1'
  have hcn := cnts_sizeI p.mv
  have hps : p.size = p.nm.length + sizeI p.mv := by unfold Puzz.size; omega
  obtain ⟨hr1, hr2⟩ := dsR_small p x c n
  have q1 := sDistinct p x c n h hc
  have q2 := iDistinct p x c n h
  generalize dsR p x c n = r at hr1 hr2 q1 q2
  have hsm : smallSS r := ⟨by omega, fun t ht => by have := hr2 t ht; omega⟩
  have hcb := cnts_bound r 200 hr2
  simp -dsimp -implicitDefEqProofs (disch := first | omega | (simp only [lenr]; done) | (simp only [lenr]; omega)) only [↓amPre, amAll, ↓reduceIte, reduceCtorEq, Nat.reduceEqDiff, Nat.reduceBEq, Nat.reduceAdd, Nat.reduceLeDiff, Nat.reduceSub, Nat.reduceMul, Int.reduceToNat, List.size_toArray, tyF, MM, bu0, ipure, kpure, tpure, sspure, kset, tset, ksnoc, tsnoc, Kind.av, Twist.sl, Twist.tr, Invar.av, stsize, stget, sttl, stapp, stext, tsspure, Model.sl, Model.tr, vset, vsnoc, vpure, Puzz.sl, Puzz.tr, keyB_str, keyB_int, szR_pos c1']
  refine callP_of (toPuzzle p h) ?_
  simp -dsimp -implicitDefEqProofs (disch := first | omega | (simp only [lenr]; done) | (simp only [lenr]; omega)) only [↓amPre, amAll, ↓reduceIte, reduceCtorEq, Nat.reduceEqDiff, Nat.reduceBEq, Nat.reduceAdd, Nat.reduceLeDiff, Nat.reduceSub, Nat.reduceMul, Int.reduceToNat, List.size_toArray, tyF, MM, bu0, ipure, kpure, tpure, sspure, kset, tset, ksnoc, tsnoc, Kind.av, Twist.sl, Twist.tr, Invar.av, stsize, stget, sttl, stapp, stext, tsspure, Model.sl, Model.tr, vset, vsnoc, vpure, Puzz.sl, Puzz.tr, keyB_str, keyB_int, ssfz]
  refine callP_of (q1) ?_
  simp -dsimp -implicitDefEqProofs (disch := first | omega | (simp only [lenr]; done) | (simp only [lenr]; omega)) only [↓amPre, amAll, ↓reduceIte, reduceCtorEq, Nat.reduceEqDiff, Nat.reduceBEq, Nat.reduceAdd, Nat.reduceLeDiff, Nat.reduceSub, Nat.reduceMul, Int.reduceToNat, List.size_toArray, tyF, MM, bu0, ipure, kpure, tpure, sspure, kset, tset, ksnoc, tsnoc, Kind.av, Twist.sl, Twist.tr, Invar.av, stsize, stget, sttl, stapp, stext, tsspure, Model.sl, Model.tr, vset, vsnoc, vpure, Puzz.sl, Puzz.tr, keyB_str, keyB_int, ssfz]
  refine callP_of (toPuzzle p h) ?_
  simp -dsimp -implicitDefEqProofs (disch := first | omega | (simp only [lenr]; done) | (simp only [lenr]; omega)) only [↓amPre, amAll, ↓reduceIte, reduceCtorEq, Nat.reduceEqDiff, Nat.reduceBEq, Nat.reduceAdd, Nat.reduceLeDiff, Nat.reduceSub, Nat.reduceMul, Int.reduceToNat, List.size_toArray, tyF, MM, bu0, ipure, kpure, tpure, sspure, kset, tset, ksnoc, tsnoc, Kind.av, Twist.sl, Twist.tr, Invar.av, stsize, stget, sttl, stapp, stext, tsspure, Model.sl, Model.tr, vset, vsnoc, vpure, Puzz.sl, Puzz.tr, keyB_str, keyB_int, ssfz]
  refine callP_of (q2) ?_
  simp -dsimp -implicitDefEqProofs (disch := first | omega | (simp only [lenr]; done) | (simp only [lenr]; omega)) only [↓amPre, amAll, ↓reduceIte, reduceCtorEq, Nat.reduceEqDiff, Nat.reduceBEq, Nat.reduceAdd, Nat.reduceLeDiff, Nat.reduceSub, Nat.reduceMul, Int.reduceToNat, List.size_toArray, tyF, MM, bu0, ipure, kpure, tpure, sspure, kset, tset, ksnoc, tsnoc, Kind.av, Twist.sl, Twist.tr, Invar.av, stsize, stget, sttl, stapp, stext, tsspure, Model.sl, Model.tr, vset, vsnoc, vpure, Puzz.sl, Puzz.tr, keyB_str, keyB_int, ssfz]
  refine callP_of (eqInt64SS r r hsm) ?_
  simp -dsimp -implicitDefEqProofs (disch := first | omega | (simp only [lenr]; done) | (simp only [lenr]; omega)) only [↓amPre, amAll, ↓reduceIte, reduceCtorEq, Nat.reduceEqDiff, Nat.reduceBEq, Nat.reduceAdd, Nat.reduceLeDiff, Nat.reduceSub, Nat.reduceMul, Int.reduceToNat, List.size_toArray, tyF, MM, bu0, ipure, kpure, tpure, sspure, kset, tset, ksnoc, tsnoc, Kind.av, Twist.sl, Twist.tr, Invar.av, stsize, stget, sttl, stapp, stext, tsspure, Model.sl, Model.tr, vset, vsnoc, vpure, Puzz.sl, Puzz.tr, keyB_str, keyB_int, ssfz]
  refine split_go 3 (by decide +kernel) ?_
  simp -dsimp -implicitDefEqProofs (disch := first | omega | (simp only [lenr]; done) | (simp only [lenr]; omega)) only [↓amPre, amAll, ↓reduceIte, reduceCtorEq, Nat.reduceEqDiff, Nat.reduceBEq, Nat.reduceAdd, Nat.reduceLeDiff, Nat.reduceSub, Nat.reduceMul, Int.reduceToNat, List.size_toArray, tyF, MM, bu0, ipure, kpure, tpure, sspure, kset, tset, ksnoc, tsnoc, Kind.av, Twist.sl, Twist.tr, Invar.av, stsize, stget, sttl, stapp, stext, tsspure, Model.sl, Model.tr, vset, vsnoc, vpure, Puzz.sl, Puzz.tr, keyB_str, keyB_int, ssfz]
  refine callP_of (toPuzzle p h) ?_
  simp -dsimp -implicitDefEqProofs (disch := first | omega | (simp only [lenr]; done) | (simp only [lenr]; omega)) only [↓amPre, amAll, ↓reduceIte, reduceCtorEq, Nat.reduceEqDiff, Nat.reduceBEq, Nat.reduceAdd, Nat.reduceLeDiff, Nat.reduceSub, Nat.reduceMul, Int.reduceToNat, List.size_toArray, tyF, MM, bu0, ipure, kpure, tpure, sspure, kset, tset, ksnoc, tsnoc, Kind.av, Twist.sl, Twist.tr, Invar.av, stsize, stget, sttl, stapp, stext, tsspure, Model.sl, Model.tr, vset, vsnoc, vpure, Puzz.sl, Puzz.tr, keyB_str, keyB_int, ssfz]
  refine callP_of (eqPuzzle p p h) ?_
  simp -dsimp -implicitDefEqProofs (disch := first | omega | (simp only [lenr]; done) | (simp only [lenr]; omega)) only [↓amPre, amAll, ↓reduceIte, reduceCtorEq, Nat.reduceEqDiff, Nat.reduceBEq, Nat.reduceAdd, Nat.reduceLeDiff, Nat.reduceSub, Nat.reduceMul, Int.reduceToNat, List.size_toArray, tyF, MM, bu0, ipure, kpure, tpure, sspure, kset, tset, ksnoc, tsnoc, Kind.av, Twist.sl, Twist.tr, Invar.av, stsize, stget, sttl, stapp, stext, tsspure, Model.sl, Model.tr, vset, vsnoc, vpure, Puzz.sl, Puzz.tr, keyB_str, keyB_int, ssfz]
  refine callX_of (markPuzzle p 1 (by omega) (by omega) h) ?_
  simp -dsimp -implicitDefEqProofs (disch := first | omega | (simp only [lenr]; done) | (simp only [lenr]; omega)) only [↓amPre, amAll, ↓reduceIte, reduceCtorEq, Nat.reduceEqDiff, Nat.reduceBEq, Nat.reduceAdd, Nat.reduceLeDiff, Nat.reduceSub, Nat.reduceMul, Int.reduceToNat, List.size_toArray, tyF, MM, bu0, ipure, kpure, tpure, sspure, kset, tset, ksnoc, tsnoc, Kind.av, Twist.sl, Twist.tr, Invar.av, stsize, stget, sttl, stapp, stext, tsspure, Model.sl, Model.tr, vset, vsnoc, vpure, Puzz.sl, Puzz.tr, keyB_str, keyB_int, ssfz, mks_len, runI_len]
  refine callP_of (eqInt64SS r r hsm) ?_
  simp -dsimp -implicitDefEqProofs (disch := first | omega | (simp only [lenr]; done) | (simp only [lenr]; omega)) only [↓amPre, amAll, ↓reduceIte, reduceCtorEq, Nat.reduceEqDiff, Nat.reduceBEq, Nat.reduceAdd, Nat.reduceLeDiff, Nat.reduceSub, Nat.reduceMul, Int.reduceToNat, List.size_toArray, tyF, MM, bu0, ipure, kpure, tpure, sspure, kset, tset, ksnoc, tsnoc, Kind.av, Twist.sl, Twist.tr, Invar.av, stsize, stget, sttl, stapp, stext, tsspure, Model.sl, Model.tr, vset, vsnoc, vpure, Puzz.sl, Puzz.tr, keyB_str, keyB_int, ssfz, mks_len, runI_len]
  refine callX_of (markInt64SS r 1 (by omega) (by omega) hsm) ?_
  simp -dsimp -implicitDefEqProofs (disch := first | omega | (simp only [lenr]; done) | (simp only [lenr]; omega)) only [↓amPre, amAll, ↓reduceIte, reduceCtorEq, Nat.reduceEqDiff, Nat.reduceBEq, Nat.reduceAdd, Nat.reduceLeDiff, Nat.reduceSub, Nat.reduceMul, Int.reduceToNat, List.size_toArray, tyF, MM, bu0, ipure, kpure, tpure, sspure, kset, tset, ksnoc, tsnoc, Kind.av, Twist.sl, Twist.tr, Invar.av, stsize, stget, sttl, stapp, stext, tsspure, Model.sl, Model.tr, vset, vsnoc, vpure, Puzz.sl, Puzz.tr, keyB_str, keyB_int, ssfz, mks_len, runI_len]
  refine callP_of (heldInt64SS r 1 (by omega) (by omega) hsm) ?_
  simp -dsimp -implicitDefEqProofs (disch := first | omega | (simp only [lenr]; done) | (simp only [lenr]; omega)) only [↓amPre, amAll, ↓reduceIte, reduceCtorEq, Nat.reduceEqDiff, Nat.reduceBEq, Nat.reduceAdd, Nat.reduceLeDiff, Nat.reduceSub, Nat.reduceMul, Int.reduceToNat, List.size_toArray, tyF, MM, bu0, ipure, kpure, tpure, sspure, kset, tset, ksnoc, tsnoc, Kind.av, Twist.sl, Twist.tr, Invar.av, stsize, stget, sttl, stapp, stext, tsspure, Model.sl, Model.tr, vset, vsnoc, vpure, Puzz.sl, Puzz.tr, keyB_str, keyB_int, ssfz, mks_len, runI_len]
  refine callP_of (toPuzzle p h) ?_
  simp -dsimp -implicitDefEqProofs (disch := first | omega | (simp only [lenr]; done) | (simp only [lenr]; omega)) only [↓amPre, amAll, ↓reduceIte, reduceCtorEq, Nat.reduceEqDiff, Nat.reduceBEq, Nat.reduceAdd, Nat.reduceLeDiff, Nat.reduceSub, Nat.reduceMul, Int.reduceToNat, List.size_toArray, tyF, MM, bu0, ipure, kpure, tpure, sspure, kset, tset, ksnoc, tsnoc, Kind.av, Twist.sl, Twist.tr, Invar.av, stsize, stget, sttl, stapp, stext, tsspure, Model.sl, Model.tr, vset, vsnoc, vpure, Puzz.sl, Puzz.tr, keyB_str, keyB_int, ssfz, mks_len, runI_len]
  refine callP_of (q2) ?_
  simp -dsimp -implicitDefEqProofs (disch := first | omega | (simp only [lenr]; done) | (simp only [lenr]; omega)) only [↓amPre, amAll, ↓reduceIte, reduceCtorEq, Nat.reduceEqDiff, Nat.reduceBEq, Nat.reduceAdd, Nat.reduceLeDiff, Nat.reduceSub, Nat.reduceMul, Int.reduceToNat, List.size_toArray, tyF, MM, bu0, ipure, kpure, tpure, sspure, kset, tset, ksnoc, tsnoc, Kind.av, Twist.sl, Twist.tr, Invar.av, stsize, stget, sttl, stapp, stext, tsspure, Model.sl, Model.tr, vset, vsnoc, vpure, Puzz.sl, Puzz.tr, keyB_str, keyB_int, ssfz, mks_len, runI_len]
  refine callP_of (eqInt64SS r r hsm) ?_
  simp -dsimp -implicitDefEqProofs (disch := first | omega | (simp only [lenr]; done) | (simp only [lenr]; omega)) only [↓amPre, amAll, ↓reduceIte, reduceCtorEq, Nat.reduceEqDiff, Nat.reduceBEq, Nat.reduceAdd, Nat.reduceLeDiff, Nat.reduceSub, Nat.reduceMul, Int.reduceToNat, List.size_toArray, tyF, MM, bu0, ipure, kpure, tpure, sspure, kset, tset, ksnoc, tsnoc, Kind.av, Twist.sl, Twist.tr, Invar.av, stsize, stget, sttl, stapp, stext, tsspure, Model.sl, Model.tr, vset, vsnoc, vpure, Puzz.sl, Puzz.tr, keyB_str, keyB_int, ssfz, mks_len, runI_len]
  refine callP_of (heldInt64SS r 1 (by omega) (by omega) hsm) ?_
  simp -dsimp -implicitDefEqProofs (disch := first | omega | (simp only [lenr]; done) | (simp only [lenr]; omega)) only [↓amPre, amAll, ↓reduceIte, reduceCtorEq, Nat.reduceEqDiff, Nat.reduceBEq, Nat.reduceAdd, Nat.reduceLeDiff, Nat.reduceSub, Nat.reduceMul, Int.reduceToNat, List.size_toArray, tyF, MM, bu0, ipure, kpure, tpure, sspure, kset, tset, ksnoc, tsnoc, Kind.av, Twist.sl, Twist.tr, Invar.av, stsize, stget, sttl, stapp, stext, tsspure, Model.sl, Model.tr, vset, vsnoc, vpure, Puzz.sl, Puzz.tr, keyB_str, keyB_int, ssfz, mks_len, runI_len]
end Go.AM

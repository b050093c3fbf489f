/-
  CONTRACTS of functions of the program, and what they compute, by content.
-/
import Derived.Test.YtenlmhbkigfjeaaM2Tool
import Derived.Test.YtenlmhbkigfjeaaM2Facts
import Derived.Test.YtenlmhbkigfjeaaM2SD
set_option linter.unusedVariables false
set_option linter.unusedSimpArgs false
namespace Go.AM
/-! content: lists of numbers, lists of things -/
abbrev ints (l : List Int) : List AV := l.map AV.i64
abbrev isl (l : List Int) : AV := .sl 1 (l.map AV.i64)
abbrev itr (l : List Int) : AV := .tr 1 (l.map AV.i64)
class Thing (α : Type) extends Inhabited α
instance : Thing (List Int) := ⟨⟩
instance : Thing (List (List Int)) := ⟨⟩
theorem gm {α : Type} [Thing α] (f : α → AV) (l : List α) (i : Nat) (h : i < l.length) : (l.map f).getD i .any = f (l.getD i default) := by
  simp [List.getD, h]
theorem gi (l : List Int) (i : Nat) (h : i < l.length) : (l.map AV.i64).getD i .any = .i64 (l.getD i 0) := by
  simp [List.getD, h]
theorem set_map {α : Type} (f : α → AV) (l : List α) (i : Nat) (x : α) : (l.map f).set i (f x) = (l.set i x).map f := by
  rw [List.map_set]
theorem map_snoc {α : Type} (f : α → AV) (l : List α) (x : α) : l.map f ++ [f x] = (l ++ [x]).map f := by simp
theorem map_take {α : Type} (f : α → AV) (l : List α) (n : Nat) : (l.map f).take n = (l.take n).map f := by rw [List.map_take]
theorem map_drop {α : Type} (f : α → AV) (l : List α) (n : Nat) : (l.map f).drop n = (l.drop n).map f := by rw [List.map_drop]
theorem take_map_all {α : Type} (f : α → AV) (l : List α) (n : Nat) (h : n = l.length) : (l.map f).take n = l.map f := by
  rw [List.take_of_length_le]; simp; omega
theorem ints_fz (l : List Int) : (l.map AV.i64).map AV.fz = l.map AV.i64 := by simp [fz_v]
theorem i64c {a b : Int} (h : a = b) : AV.i64 a = AV.i64 b := by rw [h]
theorem vic {k : IntKind} {a b : Int} (h : a = b) : Value.int k a = Value.int k b := by rw [h]
theorem cast1 (j : Nat) : ((j : Int) + 1) = ((j + 1 : Nat) : Int) := by simp
theorem bl_eq {a b : Bool} (h : a = true ↔ b = true) : Value.bool a = Value.bool b := by rw [Bool.eq_iff_iff.2 h]
theorem getD_eq {α : Type} (l : List α) (i : Nat) (d : α) (h : i < l.length) : l.getD i d = l[i] := by simp [List.getD, h]
theorem take_succ_eq {α : Type} (l : List α) (i : Nat) (d : α) (h : i < l.length) : l.take (i + 1) = l.take i ++ [l.getD i d] := by
  rw [List.take_succ_eq_append_getElem h, getD_eq l i d h]
theorem mem_take_succ {α : Type} {l : List α} {i : Nat} {d : α} (h : i < l.length) {p : α → Prop} : (∀ x ∈ l.take (i + 1), p x) ↔ (∀ x ∈ l.take i, p x) ∧ p (l.getD i d) := by
  rw [take_succ_eq l i d h]
  constructor
  · intro q; exact ⟨fun x hx => q x (by simp [hx]), q _ (by simp)⟩
  · rintro ⟨q1, q2⟩ x hx
    rcases List.mem_append.1 hx with hx | hx
    · exact q1 x hx
    · rw [List.mem_singleton.1 hx]; exact q2
theorem take_eq_iff {α : Type} {a b : List α} (d : α) (k : Nat) (hk : k < a.length) (hk' : k < b.length) : a.take (k + 1) = b.take (k + 1) ↔ a.take k = b.take k ∧ a.getD k d = b.getD k d := by
  rw [take_succ_eq a k d hk, take_succ_eq b k d hk']
  constructor
  · intro h
    obtain ⟨h1, h2⟩ := List.append_inj h (by simp; omega)
    exact ⟨h1, by simpa using h2⟩
  · rintro ⟨h1, h2⟩; rw [h1, h2]
theorem eq_of_takes {α : Type} {a b : List α} (hl : a.length = b.length) (h : a.take a.length = b.take a.length) : a = b := by
  have e1 : a.take a.length = a := List.take_length
  have e2 : b.take a.length = b := by rw [hl]; exact List.take_length
  rw [← e1, ← e2]; exact h
def runI (k : Int) (n : Nat) : List Int := (List.range n).map fun i => k + (i : Nat)
theorem runI_len (k : Int) (n : Nat) : (runI k n).length = n := by simp [runI]
theorem runI_get (k : Int) (n i : Nat) (h : i < n) : (runI k n).getD i 0 = k + i := by simp [runI, List.getD, h]
def mixL {α : Type} (a b : List α) (n : Nat) : List α := a.take n ++ b.drop n
theorem mixL_zero {α : Type} (a b : List α) : mixL a b 0 = b := by simp [mixL]
theorem mixL_all {α : Type} (a b : List α) (n : Nat) (h : a.length ≤ n) (h' : b.length ≤ n) : mixL a b n = a := by
  simp [mixL, List.take_of_length_le h, List.drop_of_length_le h']
theorem mixL_len {α : Type} (a b : List α) (n : Nat) (h : a.length = b.length) : (mixL a b n).length = b.length := by
  simp [mixL]; omega
theorem mixL_set {α : Type} (a b : List α) (n : Nat) (d : α) (h : a.length = b.length) (hn : n < b.length) : (mixL a b n).set n (a.getD n d) = mixL a b (n + 1) := by
  apply List.ext_getElem
  · simp [mixL]; omega
  · intro i h1 h2
    simp only [mixL, List.getElem_set, List.getElem_append, List.length_take, List.getElem_take, List.getElem_drop]
    have hd : a.getD n d = a[n]'(by omega) := getD_eq a n d (by omega)
    by_cases e : n = i
    · subst e; rw [if_pos rfl, dif_pos (by omega)]; exact hd
    · by_cases hlt : i < n
      · rw [if_neg e, dif_pos (by omega), dif_pos (by omega)]
      · rw [if_neg e, dif_neg (by omega), dif_neg (by omega)]
        congr 1; omega
def szR (k : Int) (n : Nat) : Int := if k - n < 0 then -1 else k - n
def within (x lo hi : Int) : Bool := decide (lo ≤ x) && decide (x ≤ hi)
theorem within_iff {x lo hi : Int} : within x lo hi = true ↔ lo ≤ x ∧ x ≤ hi := by simp [within]
theorem within_not {x lo hi : Int} : within x lo hi = false ↔ ¬ (lo ≤ x ∧ x ≤ hi) := by rw [← within_iff]; simp
theorem getD_set_same {α : Type} (l : List α) (i : Nat) (x d : α) (h : i < l.length) : (l.set i x).getD i d = x := by simp [List.getD, h]
theorem getD_set_ne {α : Type} (l : List α) (i j : Nat) (x d : α) (h : i ≠ j) : (l.set i x).getD j d = l.getD j d := by simp [List.getD, List.getElem?_set_ne h]
/-! things that are marked: each number of them gets one of its own -/
class Mk (α : Type) extends Thing α where
  mrk : Int → α → α
  cnt : α → Nat
instance : Mk (List Int) := { mrk := fun k l => runI k l.length, cnt := List.length }
section
variable {α : Type} [Mk α]
def mks (k : Int) : List α → List α
  | [] => []
  | a :: r => Mk.mrk k a :: mks (k + Mk.cnt a) r
def cnts : List α → Nat
  | [] => 0
  | a :: r => Mk.cnt a + cnts r
theorem mks_len : ∀ (k : Int) (l : List α), (mks k l).length = l.length
  | _, [] => rfl
  | k, a :: r => by rw [mks, List.length_cons, List.length_cons, mks_len]
theorem cnts_bound : ∀ (l : List α) (b : Nat), (∀ a ∈ l, Mk.cnt a ≤ b) → cnts l ≤ b * l.length
  | [], _, _ => by simp [cnts]
  | a :: r, b, h => by
    have := cnts_bound r b fun x hx => h x (by simp [hx])
    have := h a (by simp)
    simp only [cnts, List.length_cons, Nat.mul_succ]; omega
instance : Mk (List α) := { mrk := mks, cnt := cnts }
end
def sizeL {α : Type} [Mk α] (l : List α) : Nat := l.length + cnts l
theorem mem_getD {α : Type} (l : List α) (i : Nat) (d : α) (h : i < l.length) : l.getD i d ∈ l := by rw [getD_eq l i d h]; exact List.getElem_mem h
theorem hdV (x d : Value) (l : List Value) : (x :: l).headD d = x := rfl
theorem repI (n : Nat) (x : Int) : List.replicate n (AV.v (.int .i64 x)) = (List.replicate n x).map AV.i64 := by simp
theorem bbeq (b : Bool) : (b == b) = true := by cases b <;> rfl
theorem lenr : type_of% (And.intro (@List.length_map.{0,0}) (And.intro (@List.length_set.{0}) (And.intro (@List.length_append.{0}) (And.intro (@List.length_cons.{0}) (And.intro (@List.length_nil.{0}) (And.intro (@List.length_replicate.{0}) (And.intro (@List.length_take.{0}) (And.intro runI_len (And.intro (@mks_len) (And.intro (@List.length_range) (@List.length_drop.{0}))))))))))) :=
  And.intro (@List.length_map.{0,0}) (And.intro (@List.length_set.{0}) (And.intro (@List.length_append.{0}) (And.intro (@List.length_cons.{0}) (And.intro (@List.length_nil.{0}) (And.intro (@List.length_replicate.{0}) (And.intro (@List.length_take.{0}) (And.intro runI_len (And.intro (@mks_len) (And.intro (@List.length_range) (@List.length_drop.{0}))))))))))
theorem bu0 : type_of% (And.intro gi (And.intro @gm (And.intro @set_map (And.intro @map_snoc (And.intro @take_map_all (And.intro @map_take (And.intro @map_drop (And.intro ints_fz (And.intro cast1 (And.intro @getD_set_same (And.intro (@List.set_set.{0}) (And.intro hdV (And.intro repI (And.intro (@List.take_of_length_le.{0}) bbeq)))))))))))))) :=
  And.intro gi (And.intro @gm (And.intro @set_map (And.intro @map_snoc (And.intro @take_map_all (And.intro @map_take (And.intro @map_drop (And.intro ints_fz (And.intro cast1 (And.intro @getD_set_same (And.intro (@List.set_set.{0}) (And.intro hdV (And.intro repI (And.intro (@List.take_of_length_le.{0}) bbeq)))))))))))))
end Go.AM
set_option maxRecDepth 8000
namespace Go.AM
open Go.Proofs
def MM : FuncId → List Bool := fun f => if f = 56 then [true, false] else if f = 114 then [true, false] else if f = 194 then [true, false] else if f = 116 then [true, false] else if f = 40 then [true, false] else if f = 63 then [true, false] else if f = 115 then [true, false] else if f = 39 then [true, false] else if f = 213 then [true] else if f = 196 then [true, false] else []
abbrev big : Int := 1099511627776
end Go.AM
set_option maxRecDepth 8000
namespace Go.AM
namespace Draws
open Go.Proofs
def MM : FuncId → List Bool := fun f => if f = 229 then [true] else if f = 184 then [true, false] else if f = 163 then [true, false] else if f = 185 then [true, false, false] else if f = 186 then [true, false] else if f = 230 then [true] else if f = 228 then [true] else if f = 221 then [true, false] else if f = 162 then [true, true] else if f = 183 then [true] else if f = 93 then [true] else if f = 79 then [true] else []
structure Src where
  b : List UInt8
  k : Nat
  s : Int
abbrev bsl (l : List UInt8) : AV := .sl 1 (l.map fun x => .u8 x.toNat)
abbrev Src.pt (s : Src) : AV := .pt 3 (.agg [bsl s.b, .i64 s.k, .i64 s.s])
abbrev Src.ok (s : Src) : Prop := s.b.length ≤ 4096 ∧ s.k ≤ s.b.length ∧ intOk s.s
instance : Thing UInt8 := ⟨⟩
def nxS (s : Int) : Int := IntKind.i64.wrap (IntKind.i64.wrap (s * 6364136223846793005) + 1442695040888963407)
def nxX (s : Int) : Int := bitsI .and .i64 (bitsI .xor .i64 (s.fdiv (2 ^ (min 33 64))) (s.fdiv (2 ^ (min 45 64)))) 255
theorem and255 (a : Int) : 0 ≤ bitsI .and .i64 a 255 ∧ bitsI .and .i64 a 255 ≤ 255 := by
  have h : (BitVec.ofInt 64 a &&& BitVec.ofInt 64 255).toNat ≤ 255 := by
    rw [BitVec.toNat_and]
    exact Nat.le_trans Nat.and_le_right (by decide)
  have e : bitsI .and .i64 a 255 = ((BitVec.ofInt 64 a &&& BitVec.ofInt 64 255).toNat : Int) := by
    show IntKind.i64.wrap ((BitVec.ofInt 64 a &&& BitVec.ofInt 64 255).toNat : Int) = _
    apply wrap64_id; omega
  rw [e]; omega
theorem wrap_ok (x : Int) : intOk (IntKind.i64.wrap x) := by
  unfold intOk IntKind.wrap
  simp only [IntKind.signed, IntKind.bits, Bool.true_and, decide_eq_true_eq, ge_iff_le, Nat.reduceSub, Int.reducePow, Nat.reducePow]
  constructor <;> split <;> omega
theorem nextByte (s : Src) (h : s.ok) : ∃ (s' : Src) (x : Int), SpecX Try.prog 229 [s.pt] [some s'.pt] (.i64 x) ∧ s'.ok ∧ 0 ≤ x ∧ x ≤ 255 := by
  have h1 := h.1
  have h2 := h.2.1
  have h3 := h.2.2
  have hb : IntKind.i64.bits = 64 := rfl
  have hw : intOk (nxS s.s) := wrap_ok _
  have ha := and255 (bitsI .xor .i64 ((nxS s.s).fdiv (2 ^ (min 33 64))) ((nxS s.s).fdiv (2 ^ (min 45 64))))
  have hn : nxS s.s = IntKind.i64.wrap (IntKind.i64.wrap (s.s * 6364136223846793005) + 1442695040888963407) := rfl
  by_cases hk : s.k < s.b.length
  case neg =>
    refine ⟨⟨s.b, s.k, nxS s.s⟩, nxX (nxS s.s), ?_, ⟨h1, h2, hw⟩, ha⟩
    unfold intOk at h3
    have hkl : s.k = s.b.length := by omega
    refine spec_of_awp (M := MM) (np := 1) (fz := false) mixed Try.func229 rfl rfl (by decide) rfl (Nat.le_refl _) (by decide +kernel) (.inl rfl) (by simp only [sigsOk_some, sigsOk_nil, and_true]; rfl) ?_
    simp -dsimp -implicitDefEqProofs (disch := first | omega | (simp only [lenr]; done) | (simp only [lenr]; omega)) only [↓amPre, amAll, ↓reduceIte, reduceCtorEq, Nat.reduceEqDiff, Nat.reduceBEq, Nat.reduceAdd, Nat.reduceLeDiff, Nat.reduceSub, Nat.reduceMul, Int.reduceToNat, List.size_toArray, tyF, MM, bu0, hb, hkl]
    exact ⟨rfl, rfl⟩
  have hu : (s.b.getD s.k default).toNat < 256 := (s.b.getD s.k default).toNat_lt
  have hv := and255 (nxX (nxS s.s) + ((s.b.getD s.k default).toNat : Int))
  have hx : 0 ≤ nxX (nxS s.s) ∧ nxX (nxS s.s) ≤ 255 := ha
  refine ⟨⟨s.b, s.k + 1, nxS s.s⟩, bitsI .and .i64 (nxX (nxS s.s) + ((s.b.getD s.k default).toNat : Int)) 255, ?_, ⟨h1, hk, hw⟩, hv⟩
  unfold intOk at h3
  have hX : bitsI .and .i64 (bitsI .xor .i64 ((nxS s.s).fdiv (2 ^ (min 33 64))) ((nxS s.s).fdiv (2 ^ (min 45 64)))) 255 = nxX (nxS s.s) := rfl
  have e1 : IntKind.i64.wrap ((s.b.getD s.k default).toNat : Int) = (s.b.getD s.k default).toNat := wrap64_id (by omega)
  have e2 : IntKind.i64.wrap (nxX (nxS s.s) + ((s.b.getD s.k default).toNat : Int)) = nxX (nxS s.s) + ((s.b.getD s.k default).toNat : Int) := wrap64_id (by omega)
  refine spec_of_awp (M := MM) (np := 1) (fz := false) mixed Try.func229 rfl rfl (by decide) rfl (Nat.le_refl _) (by decide +kernel) (.inl rfl) (by simp only [sigsOk_some, sigsOk_nil, and_true]; rfl) ?_
  simp -dsimp -implicitDefEqProofs (disch := first | omega | (simp only [lenr]; done) | (simp only [lenr]; omega)) only [↓amPre, amAll, ↓reduceIte, reduceCtorEq, Nat.reduceEqDiff, Nat.reduceBEq, Nat.reduceAdd, Nat.reduceLeDiff, Nat.reduceSub, Nat.reduceMul, Int.reduceToNat, List.size_toArray, tyF, MM, bu0, hb, ← hn, hX, e1, e2]
theorem below (s : Src) (n : Int) (h : s.ok) (hn : intOk n) : ∃ (s' : Src) (x : Int), SpecX Try.prog 184 [s.pt, .i64 n] [some s'.pt] (.i64 x) ∧ s'.ok ∧ 0 ≤ x ∧ (0 < n → x < n) ∧ (n ≤ 0 → x = 0) := by
  unfold intOk at hn
  by_cases n0 : n ≤ 0
  · refine ⟨s, 0, ?_, h, by omega, by omega, fun _ => rfl⟩
    refine spec_of_awp (M := MM) (np := 2) (fz := false) mixed Try.func184 rfl rfl (by decide) rfl (Nat.le_refl _) (by decide +kernel) (.inl rfl) (by simp only [sigsOk_some, sigsOk_nil, and_true]) ?_
    simp -dsimp -implicitDefEqProofs (disch := first | omega | (simp only [lenr]; done) | (simp only [lenr]; omega)) only [↓amPre, amAll, ↓reduceIte, reduceCtorEq, Nat.reduceEqDiff, Nat.reduceBEq, Nat.reduceAdd, Nat.reduceLeDiff, Nat.reduceSub, Nat.reduceMul, Int.reduceToNat, List.size_toArray, tyF, MM, bu0, lt_false n0]
  obtain ⟨s1, x1, q1, k1, b1⟩ := nextByte s h
  by_cases n1 : n ≤ 256
  · refine ⟨s1, x1.tmod n, ?_, k1, Int.tmod_nonneg _ b1.1, fun q => Int.tmod_lt_of_pos _ q, fun q => by omega⟩
    have hne : n ≠ 0 := by omega
    refine spec_of_awp (M := MM) (np := 2) (fz := false) mixed Try.func184 rfl rfl (by decide) rfl (Nat.le_refl _) (by decide +kernel) (.inl rfl) (by simp only [sigsOk_some, sigsOk_nil, and_true]; rfl) ?_
    simp -dsimp -implicitDefEqProofs (disch := first | omega | (simp only [lenr]; done) | (simp only [lenr]; omega)) only [↓amPre, amAll, ↓reduceIte, reduceCtorEq, Nat.reduceEqDiff, Nat.reduceBEq, Nat.reduceAdd, Nat.reduceLeDiff, Nat.reduceSub, Nat.reduceMul, Int.reduceToNat, List.size_toArray, tyF, MM, bu0, lt_true (Int.not_le.1 n0), lt_false n1]
    refine callX_of (q1) ?_
    simp -dsimp -implicitDefEqProofs (disch := first | omega | (simp only [lenr]; done) | (simp only [lenr]; omega)) only [↓amPre, amAll, ↓reduceIte, reduceCtorEq, Nat.reduceEqDiff, Nat.reduceBEq, Nat.reduceAdd, Nat.reduceLeDiff, Nat.reduceSub, Nat.reduceMul, Int.reduceToNat, List.size_toArray, tyF, MM, bu0, hne]
  obtain ⟨s2, x2, q2, k2, b2⟩ := nextByte s1 k1
  obtain ⟨s3, x3, q3, k3, b3⟩ := nextByte s2 k2
  obtain ⟨s4, x4, q4, k4, b4⟩ := nextByte s3 k3
  refine ⟨s4, (x1 * 16777216 + x2 * 65536 + x3 * 256 + x4).tmod n, ?_, k4, Int.tmod_nonneg _ (by omega), fun q => Int.tmod_lt_of_pos _ q, fun q => by omega⟩
  have hne : n ≠ 0 := by omega
  have e1 : IntKind.i64.wrap (x1 * 16777216) = x1 * 16777216 := wrap64_id (by omega)
  have e2 : IntKind.i64.wrap (x2 * 65536) = x2 * 65536 := wrap64_id (by omega)
  have e3 : IntKind.i64.wrap (x3 * 256) = x3 * 256 := wrap64_id (by omega)
  have e4 : IntKind.i64.wrap (x1 * 16777216 + x2 * 65536) = x1 * 16777216 + x2 * 65536 := wrap64_id (by omega)
  have e5 : IntKind.i64.wrap (x1 * 16777216 + x2 * 65536 + x3 * 256) = x1 * 16777216 + x2 * 65536 + x3 * 256 := wrap64_id (by omega)
  have e6 : IntKind.i64.wrap (x1 * 16777216 + x2 * 65536 + x3 * 256 + x4) = x1 * 16777216 + x2 * 65536 + x3 * 256 + x4 := wrap64_id (by omega)
  refine spec_of_awp (M := MM) (np := 2) (fz := false) mixed Try.func184 rfl rfl (by decide) rfl (Nat.le_refl _) (by decide +kernel) (.inl rfl) (by simp only [sigsOk_some, sigsOk_nil, and_true]; rfl) ?_
  simp -dsimp -implicitDefEqProofs (disch := first | omega | (simp only [lenr]; done) | (simp only [lenr]; omega)) only [↓amPre, amAll, ↓reduceIte, reduceCtorEq, Nat.reduceEqDiff, Nat.reduceBEq, Nat.reduceAdd, Nat.reduceLeDiff, Nat.reduceSub, Nat.reduceMul, Int.reduceToNat, List.size_toArray, tyF, MM, bu0, lt_true (Int.not_le.1 n0), lt_true (Int.not_le.1 n1)]
  refine callX_of (q1) ?_
  simp -dsimp -implicitDefEqProofs (disch := first | omega | (simp only [lenr]; done) | (simp only [lenr]; omega)) only [↓amPre, amAll, ↓reduceIte, reduceCtorEq, Nat.reduceEqDiff, Nat.reduceBEq, Nat.reduceAdd, Nat.reduceLeDiff, Nat.reduceSub, Nat.reduceMul, Int.reduceToNat, List.size_toArray, tyF, MM, bu0]
  refine callX_of (q2) ?_
  simp -dsimp -implicitDefEqProofs (disch := first | omega | (simp only [lenr]; done) | (simp only [lenr]; omega)) only [↓amPre, amAll, ↓reduceIte, reduceCtorEq, Nat.reduceEqDiff, Nat.reduceBEq, Nat.reduceAdd, Nat.reduceLeDiff, Nat.reduceSub, Nat.reduceMul, Int.reduceToNat, List.size_toArray, tyF, MM, bu0]
  refine callX_of (q3) ?_
  simp -dsimp -implicitDefEqProofs (disch := first | omega | (simp only [lenr]; done) | (simp only [lenr]; omega)) only [↓amPre, amAll, ↓reduceIte, reduceCtorEq, Nat.reduceEqDiff, Nat.reduceBEq, Nat.reduceAdd, Nat.reduceLeDiff, Nat.reduceSub, Nat.reduceMul, Int.reduceToNat, List.size_toArray, tyF, MM, bu0]
  refine callX_of (q4) ?_
  simp -dsimp -implicitDefEqProofs (disch := first | omega | (simp only [lenr]; done) | (simp only [lenr]; omega)) only [↓amPre, amAll, ↓reduceIte, reduceCtorEq, Nat.reduceEqDiff, Nat.reduceBEq, Nat.reduceAdd, Nat.reduceLeDiff, Nat.reduceSub, Nat.reduceMul, Int.reduceToNat, List.size_toArray, tyF, MM, bu0, hne, e1, e2, e3, e4, e5, e6]
theorem oneIn (s : Src) (n : Int) (h : s.ok) (hn : intOk n) : ∃ (s' : Src) (b : Bool), SpecX Try.prog 163 [s.pt, .i64 n] [some s'.pt] (.bl b) ∧ s'.ok := by
  obtain ⟨s1, x1, q1, k1, b1⟩ := below s n h hn
  refine ⟨s1, x1 == 0, ?_, k1⟩
  refine spec_of_awp (M := MM) (np := 2) (fz := false) mixed Try.func163 rfl rfl (by decide) rfl (Nat.le_refl _) (by decide +kernel) (.inl rfl) (by simp only [sigsOk_some, sigsOk_nil, and_true]; rfl) ?_
  simp -dsimp -implicitDefEqProofs (disch := first | omega | (simp only [lenr]; done) | (simp only [lenr]; omega)) only [↓amPre, amAll, ↓reduceIte, reduceCtorEq, Nat.reduceEqDiff, Nat.reduceBEq, Nat.reduceAdd, Nat.reduceLeDiff, Nat.reduceSub, Nat.reduceMul, Int.reduceToNat, List.size_toArray, tyF, MM, bu0]
  refine callX_of (q1) ?_
  simp -dsimp -implicitDefEqProofs (disch := first | omega | (simp only [lenr]; done) | (simp only [lenr]; omega)) only [↓amPre, amAll, ↓reduceIte, reduceCtorEq, Nat.reduceEqDiff, Nat.reduceBEq, Nat.reduceAdd, Nat.reduceLeDiff, Nat.reduceSub, Nat.reduceMul, Int.reduceToNat, List.size_toArray, tyF, MM, bu0]
theorem between (s : Src) (a b : Int) (h : s.ok) (ha : -1000 ≤ a) (hab : a ≤ b) (hb : b ≤ 1000) : ∃ (s' : Src) (x : Int), SpecX Try.prog 185 [s.pt, .i64 a, .i64 b] [some s'.pt] (.i64 x) ∧ s'.ok ∧ a ≤ x ∧ x ≤ b := by
  obtain ⟨s1, x1, q1, k1, b1, b2, b3⟩ := below s (b - a + 1) h (by unfold intOk; omega)
  have b2 := b2 (by omega)
  refine ⟨s1, a + x1, ?_, k1, by omega, by omega⟩
  refine spec_of_awp (M := MM) (np := 3) (fz := false) mixed Try.func185 rfl rfl (by decide) rfl (Nat.le_refl _) (by decide +kernel) (.inl rfl) (by simp only [sigsOk_some, sigsOk_nil, and_true]; rfl) ?_
  simp -dsimp -implicitDefEqProofs (disch := first | omega | (simp only [lenr]; done) | (simp only [lenr]; omega)) only [↓amPre, amAll, ↓reduceIte, reduceCtorEq, Nat.reduceEqDiff, Nat.reduceBEq, Nat.reduceAdd, Nat.reduceLeDiff, Nat.reduceSub, Nat.reduceMul, Int.reduceToNat, List.size_toArray, tyF, MM, bu0]
  refine callX_of (q1) ?_
  simp -dsimp -implicitDefEqProofs (disch := first | omega | (simp only [lenr]; done) | (simp only [lenr]; omega)) only [↓amPre, amAll, ↓reduceIte, reduceCtorEq, Nat.reduceEqDiff, Nat.reduceBEq, Nat.reduceAdd, Nat.reduceLeDiff, Nat.reduceSub, Nat.reduceMul, Int.reduceToNat, List.size_toArray, tyF, MM, bu0]
theorem extremeInt (s : Src) (h : s.ok) : ∃ (s' : Src) (x : Int), SpecX Try.prog 230 [s.pt] [some s'.pt] (.i64 x) ∧ s'.ok ∧ intOk x := by
  obtain ⟨s1, x1, q1, k1, b1, b2, b3⟩ := below s 10 h (by unfold intOk; omega)
  have b2 := b2 (by omega)
  obtain ⟨n, hn⟩ : ∃ n : Nat, x1 = n := ⟨_, (Int.toNat_of_nonneg b1).symm⟩
  have hn10 : n < 10 := by omega
  subst hn
  have hin : ∀ n : Nat, n < 10 → -9223372036854775808 ≤ ([-1, 0, 1, 2147483648, -2147483648, 1099511627776, 4611686018427387904, -4611686018427387904, 9223372036854775807, -9223372036854775808] : List Int).getD n 0 ∧ ([-1, 0, 1, 2147483648, -2147483648, 1099511627776, 4611686018427387904, -4611686018427387904, 9223372036854775807, -9223372036854775808] : List Int).getD n 0 ≤ 9223372036854775807 := by decide +kernel
  refine ⟨s1, ([-1, 0, 1, 2147483648, -2147483648, 1099511627776, 4611686018427387904, -4611686018427387904, 9223372036854775807, -9223372036854775808] : List Int).getD n 0, ?_, k1, hin n hn10⟩
  have hg : ([.i64 (-1), .i64 (0), .i64 (1), .i64 (2147483648), .i64 (-2147483648), .i64 (1099511627776), .i64 (4611686018427387904), .i64 (-4611686018427387904), .i64 (9223372036854775807), .i64 (-9223372036854775808)] : List AV).getD n .any = .i64 (([-1, 0, 1, 2147483648, -2147483648, 1099511627776, 4611686018427387904, -4611686018427387904, 9223372036854775807, -9223372036854775808] : List Int).getD n 0) := by
    match n, hn10 with
    | 0, _ => rfl
    | 1, _ => rfl
    | 2, _ => rfl
    | 3, _ => rfl
    | 4, _ => rfl
    | 5, _ => rfl
    | 6, _ => rfl
    | 7, _ => rfl
    | 8, _ => rfl
    | 9, _ => rfl
  generalize ([-1, 0, 1, 2147483648, -2147483648, 1099511627776, 4611686018427387904, -4611686018427387904, 9223372036854775807, -9223372036854775808] : List Int).getD n 0 = y at hg ⊢
  refine spec_of_awp (M := MM) (np := 1) (fz := false) mixed Try.func230 rfl rfl (by decide) rfl (Nat.le_refl _) (by decide +kernel) (.inl rfl) (by simp only [sigsOk_some, sigsOk_nil, and_true]; rfl) ?_
  simp -dsimp -implicitDefEqProofs (disch := first | omega | (simp only [lenr]; done) | (simp only [lenr]; omega)) only [↓amPre, amAll, ↓reduceIte, reduceCtorEq, Nat.reduceEqDiff, Nat.reduceBEq, Nat.reduceAdd, Nat.reduceLeDiff, Nat.reduceSub, Nat.reduceMul, Int.reduceToNat, List.size_toArray, tyF, MM, bu0]
  refine callX_of (q1) ?_
  simp -dsimp -implicitDefEqProofs (disch := first | omega | (simp only [lenr]; done) | (simp only [lenr]; omega)) only [↓amPre, amAll, ↓reduceIte, reduceCtorEq, Nat.reduceEqDiff, Nat.reduceBEq, Nat.reduceAdd, Nat.reduceLeDiff, Nat.reduceSub, Nat.reduceMul, Int.reduceToNat, List.size_toArray, tyF, MM, bu0, hg]
end Draws
end Go.AM
namespace Go.AM
namespace Draws
open Go.Proofs
theorem opens_u8 {P : Program} {t : TypeId} (ht : P.underlying t = some (.int .u8)) : Opens P t UInt8 (fun b => [.u8 b.toNat]) (fun _ => True) := by
  intro H enc w sp held fuel cs x h
  obtain ⟨n, rfl, _, hw⟩ := DataW.trod_int ht h
  simp only [Lit.wf, Bool.and_eq_true, decide_eq_true_eq] at hw
  have e1 : IntKind.u8.min = 0 := by decide
  have e2 : IntKind.u8.max = 255 := by decide
  rw [e1, e2] at hw
  refine ⟨UInt8.ofNat n.toNat, trivial, rfl, fun j hj hk => ?_⟩
  have : j = 0 := by simp at hj; omega
  subst this
  have e : ((UInt8.ofNat n.toNat).toNat : Int) = n := by rw [UInt8.toNat_ofNat']; omega
  simp only [List.getElem_cons_zero]
  rw [e]
  exact ⟨.v _, rfl⟩
theorem openByte : Opens Try.prog 5 UInt8 (fun b => [AV.u8 b.toNat]) (fun _ => True) := opens_u8 Try.underlying5
theorem openBytes : Opens Try.prog 22 (List UInt8) (fun l => [AV.sl 1 (l.map fun x => AV.u8 x.toNat)]) (fun l => l.length ≤ 9223372036854775807 ∧ ∀ b ∈ l, True) :=
  opens_slice Try.underlying22 (by kernel_rfl) (by decide) (fun x : UInt8 => AV.u8 x.toNat) (fun _ => rfl) openByte
end Draws
end Go.AM
namespace Go.AM
/-! permutations, plainly -/
def isPerm (p : List Int) : Prop := (1 ≤ p.length ∧ p.length ≤ 20) ∧ (∀ x ∈ p, 0 ≤ x ∧ x < p.length) ∧ p.Nodup
instance (p : List Int) : Decidable (isPerm p) := by unfold isPerm; infer_instance
theorem len_le_of_sub {α : Type} [DecidableEq α] : ∀ (a b : List α), a.Nodup → (∀ x ∈ a, x ∈ b) → a.length ≤ b.length
  | [], _, _, _ => Nat.zero_le _
  | x :: a, b, hn, hs => by
    have hx := hs x (by simp)
    have h1 := len_le_of_sub a (b.erase x) (List.nodup_cons.1 hn).2 fun y hy => (List.mem_erase_of_ne (by rintro rfl; exact (List.nodup_cons.1 hn).1 hy)).2 (hs y (by simp [hy]))
    rw [List.length_erase_of_mem hx] at h1
    have : 0 < b.length := List.length_pos_of_mem hx
    simp; omega
theorem dup_of_not_nodup {α : Type} [DecidableEq α] : ∀ (p : List α), ¬ p.Nodup → ∃ x, x ∈ p.erase x
  | [], h => (h List.nodup_nil).elim
  | a :: r, h => by
    by_cases ha : a ∈ r
    · exact ⟨a, by simpa using ha⟩
    · obtain ⟨x, hx⟩ := dup_of_not_nodup r fun q => h (List.nodup_cons.2 ⟨ha, q⟩)
      refine ⟨x, ?_⟩
      have : x ≠ a := by rintro rfl; exact ha (List.mem_of_mem_erase hx)
      rw [List.erase_cons, if_neg (by simpa using fun e => this e.symm)]
      simp [hx]
theorem nodup_iff_all (p : List Nat) (n : Nat) (hl : p.length = n) (hlt : ∀ x ∈ p, x < n) : p.Nodup ↔ ∀ i, i < n → i ∈ p := by
  constructor
  · intro hn i hi
    apply Decidable.byContradiction
    intro hni
    have := len_le_of_sub p ((List.range n).erase i) hn fun x hx => (List.mem_erase_of_ne (by rintro rfl; exact hni hx)).2 (List.mem_range.2 (hlt x hx))
    rw [List.length_erase_of_mem (List.mem_range.2 hi), List.length_range] at this
    omega
  · intro h
    apply Decidable.byContradiction
    intro hn
    obtain ⟨x, hx⟩ := dup_of_not_nodup p hn
    have hxp := List.mem_of_mem_erase hx
    have := len_le_of_sub (List.range n) (p.erase x) List.nodup_range fun y hy => by
      by_cases e : y = x
      · subst e; exact hx
      · exact (List.mem_erase_of_ne e).2 (h y (List.mem_range.1 hy))
    rw [List.length_erase_of_mem hxp, List.length_range] at this
    have := List.length_pos_of_mem hxp
    omega
def maskN : List Nat → Nat
  | [] => 0
  | x :: r => (2 ^ x) ||| maskN r
theorem maskN_bit (l : List Nat) (i : Nat) : (maskN l).testBit i = true ↔ i ∈ l := by
  induction l with
  | nil => simp [maskN]
  | cons x r ih => rw [maskN, Nat.testBit_or, Bool.or_eq_true, ih, Nat.testBit_two_pow]; simp [eq_comm]
theorem maskN_snoc (l : List Nat) (x : Nat) : maskN (l ++ [x]) = maskN l ||| 2 ^ x := by
  apply Nat.eq_of_testBit_eq; intro i
  rw [Bool.eq_iff_iff, Nat.testBit_or, Bool.or_eq_true, maskN_bit, maskN_bit, Nat.testBit_two_pow]; simp [eq_comm]
theorem maskN_lt (l : List Nat) (n : Nat) (h : ∀ x ∈ l, x < n) : maskN l < 2 ^ n := by
  induction l with
  | nil => simp [maskN]; exact Nat.pow_pos (by decide)
  | cons x r ih => exact Nat.or_lt_two_pow (Nat.pow_lt_pow_right (by decide) (h x (by simp))) (ih fun y hy => h y (by simp [hy]))
theorem maskN_full (l : List Nat) (n : Nat) (h : ∀ x ∈ l, x < n) : maskN l = 2 ^ n - 1 ↔ ∀ i, i < n → i ∈ l := by
  constructor
  · intro e i hi
    rw [← maskN_bit, e, Nat.testBit_two_pow_sub_one]; simpa using hi
  · intro q
    apply Nat.eq_of_testBit_eq; intro i
    rw [Bool.eq_iff_iff, maskN_bit, Nat.testBit_two_pow_sub_one, decide_eq_true_iff]
    exact ⟨fun hi => h i hi, q i⟩
def mask (p : List Int) : Nat := maskN (p.map Int.toNat)
theorem mask_snoc (l : List Int) (x : Int) : mask (l ++ [x]) = mask l ||| 2 ^ x.toNat := by simp [mask, maskN_snoc]
theorem mask_perm (p : List Int) (h : ∀ x ∈ p, 0 ≤ x ∧ x < p.length) : mask p = 2 ^ p.length - 1 ↔ p.Nodup := by
  have hlt : ∀ x ∈ p.map Int.toNat, x < p.length := by
    intro x hx
    obtain ⟨y, hy, rfl⟩ := List.mem_map.1 hx
    have := h y hy; omega
  rw [mask, maskN_full _ _ hlt, ← nodup_iff_all _ _ (by simp) hlt, List.Nodup, List.Nodup, List.pairwise_map]
  constructor
  · intro q; exact q.imp fun hab e => hab (by rw [e])
  · intro q
    refine (List.Pairwise.imp_of_mem ?_ q)
    intro a b ha hb hab e
    have := h a ha; have := h b hb; exact hab (by omega)
theorem mask_lt (p : List Int) (n : Nat) (h : ∀ x ∈ p, 0 ≤ x ∧ x < n) : mask p < 2 ^ n := by
  apply maskN_lt
  intro x hx
  obtain ⟨y, hy, rfl⟩ := List.mem_map.1 hx
  have := h y hy; omega
theorem bits_or (a b : Nat) (ha : a < 2 ^ 62) (hb : b < 2 ^ 62) : bitsI .or .i64 (a : Int) (b : Int) = ((a ||| b : Nat) : Int) := by
  have h1 : a ||| b < 2 ^ 62 := Nat.or_lt_two_pow ha hb
  have e1 : (BitVec.ofInt 64 (a : Int)).toNat = a := by rw [BitVec.toNat_ofInt]; omega
  have e2 : (BitVec.ofInt 64 (b : Int)).toNat = b := by rw [BitVec.toNat_ofInt]; omega
  show IntKind.i64.wrap ((BitVec.ofInt 64 (a : Int) ||| BitVec.ofInt 64 (b : Int)).toNat : Int) = _
  rw [BitVec.toNat_or, e1, e2]
  apply wrap64_id; omega
end Go.AM
namespace Go.AM
/-! kinds, plainly -/
structure Kind where
  c : Int
  o : Int
  deriving DecidableEq
instance : Mk Kind := { default := ⟨0, 0⟩, mrk := fun k _ => ⟨k, k + 1⟩, cnt := fun _ => 2 }
structure Twist where
  to : List Int
  by' : List Int
  deriving DecidableEq
instance : Mk Twist := { default := ⟨[], []⟩, mrk := fun k t => ⟨runI k t.to.length, runI (k + t.to.length) t.by'.length⟩, cnt := fun t => t.to.length + t.by'.length }
def kOk (k : Kind) : Prop := (1 ≤ k.c ∧ k.c ≤ 20) ∧ (1 ≤ k.o ∧ k.o ≤ 20)
instance (k : Kind) : Decidable (kOk k) := by unfold kOk; infer_instance
def facets : List Kind → Int
  | [] => 0
  | k :: r => k.c * k.o + facets r
theorem facets_append : ∀ a b : List Kind, facets (a ++ b) = facets a + facets b
  | [], b => by simp [facets]
  | k :: r, b => by simp only [List.cons_append, facets, facets_append r b]; omega
theorem facets_take (l : List Kind) (i : Nat) (h : i < l.length) : facets (l.take (i + 1)) = facets (l.take i) + (l.getD i default).c * (l.getD i default).o := by
  rw [take_succ_eq l i default h, facets_append]; simp [facets]
theorem kOk_prod {k : Kind} (h : kOk k) : 1 ≤ k.c * k.o ∧ k.c * k.o ≤ 400 ∧ k.c ≤ k.c * k.o ∧ k.o ≤ k.c * k.o := by
  obtain ⟨⟨h1, h2⟩, h3, h4⟩ := h
  have a1 : 1 * 1 ≤ k.c * k.o := Int.mul_le_mul h1 h3 (by omega) (by omega)
  have a2 : k.c * k.o ≤ 20 * 20 := Int.mul_le_mul h2 h4 (by omega) (by omega)
  have a3 : k.c * 1 ≤ k.c * k.o := Int.mul_le_mul_of_nonneg_left h3 (by omega)
  have a4 : 1 * k.o ≤ k.c * k.o := Int.mul_le_mul_of_nonneg_right h1 (by omega)
  omega
theorem facets_bound : ∀ l : List Kind, (∀ k ∈ l, kOk k) → (l.length : Int) ≤ facets l ∧ facets l ≤ 400 * l.length
  | [], _ => by simp [facets]
  | k :: r, h => by
    have h1 := facets_bound r fun x hx => h x (by simp [hx])
    have h2 := kOk_prod (h k (by simp))
    simp only [facets, List.length_cons]; omega
def kindsOk (l : List Kind) : Prop := (1 ≤ l.length ∧ l.length ≤ 3) ∧ (∀ k ∈ l, kOk k) ∧ facets l ≤ 20
instance (l : List Kind) : Decidable (kindsOk l) := by unfold kindsOk; infer_instance
theorem facets_mono (l : List Kind) (h : ∀ k ∈ l, kOk k) (i : Nat) : facets (l.take i) ≤ facets l ∧ 0 ≤ facets (l.take i) := by
  have e := facets_append (l.take i) (l.drop i)
  rw [List.take_append_drop] at e
  have h1 := facets_bound (l.drop i) fun x hx => h x (List.mem_of_mem_drop hx)
  have h2 := facets_bound (l.take i) fun x hx => h x (List.mem_of_mem_take hx)
  omega
theorem kindsOk_kind {l : List Kind} (h : kindsOk l) {k : Kind} (hk : k ∈ l) : 1 ≤ k.c ∧ k.c ≤ 20 ∧ 1 ≤ k.o ∧ k.o ≤ 20 ∧ k.c * k.o ≤ 20 := by
  obtain ⟨_, h2, h3⟩ := h
  have hq := h2 k hk
  refine ⟨hq.1.1, hq.1.2, hq.2.1, hq.2.2, ?_⟩
  obtain ⟨i, hi, rfl⟩ := List.getElem_of_mem hk
  have := facets_take l i hi
  rw [getD_eq l i default hi] at this
  have := facets_mono l h2 (i + 1)
  have := facets_mono l h2 i
  omega
/-! how many piece states there are -/
def fct : Nat → Nat
  | 0 => 1
  | n + 1 => (n + 1) * fct n
def stK (o : Nat) : Nat → Nat
  | 0 => 1
  | j + 1 => stK o j * ((j + 1) * o)
def stC : List Kind → Nat
  | [] => 1
  | k :: r => stK k.o.toNat k.c.toNat * stC r
def twOk (k : Kind) (t : Twist) : Prop := (t.to.length : Int) = k.c ∧ (t.by'.length : Int) = k.c ∧ isPerm t.to ∧ ∀ x ∈ t.by', 0 ≤ x ∧ x < k.o
instance (k : Kind) (t : Twist) : Decidable (twOk k t) := by unfold twOk; infer_instance
def psOk (ks : List Kind) (s : List Twist) : Prop := kindsOk ks ∧ s.length = ks.length ∧ ∀ i, i < ks.length → twOk (ks.getD i default) (s.getD i default)
instance (ks : List Kind) (s : List Twist) : Decidable (psOk ks s) := by unfold psOk; infer_instance
def Kind.av (k : Kind) : AV := .agg [.i64 k.c, .i64 k.o]
abbrev ksl (ks : List Kind) : AV := .sl 2 (ks.map Kind.av)
abbrev ktr (ks : List Kind) : AV := .tr 2 (ks.map Kind.av)
theorem kset (ks : List Kind) (i : Nat) (a b : Int) : (ks.map Kind.av).set i (.agg [.i64 a, .i64 b]) = (ks.set i ⟨a, b⟩).map Kind.av := by rw [List.map_set]; rfl
theorem ksnoc (ks : List Kind) (a b : Int) : ks.map Kind.av ++ [.agg [.i64 a, .i64 b]] = (ks ++ [(⟨a, b⟩ : Kind)]).map Kind.av := by simp [Kind.av]
theorem pureL_map {α : Type} (f : α → AV) (h : ∀ a, (f a).pure = true) : ∀ l : List α, AV.pureL (l.map f) = true
  | [] => rfl
  | a :: r => by rw [List.map_cons, AV.pureL, h, pureL_map f h r]; rfl
theorem ipure (l : List Int) : AV.pureL (l.map AV.i64) = true := pureL_map _ (fun _ => rfl) l
abbrev ssl (l : List (List Int)) : AV := .sl 1 (l.map isl)
abbrev sst (l : List (List Int)) : AV := .tr 1 (l.map itr)
theorem sspure (l : List (List Int)) : AV.pureL (l.map itr) = true := pureL_map _ (fun t => by simp [itr, AV.pure, ipure]) l
theorem ssfz (l : List (List Int)) : (l.map itr).map AV.fz = l.map isl := by
  rw [List.map_map]; exact List.map_congr_left fun a _ => by simp [AV.fz, fzL_map, ints_fz]
theorem kpure (l : List Kind) : AV.pureL (l.map Kind.av) = true := pureL_map _ (fun _ => rfl) l
theorem kfz (ks : List Kind) : (ks.map Kind.av).map AV.fz = ks.map Kind.av := by
  rw [List.map_map]; exact List.map_congr_left fun a _ => by simp [Kind.av, fz_v, AV.fz, AV.fzL]
def Twist.sl (t : Twist) : AV := .agg [isl t.to, isl t.by']
def Twist.tr (t : Twist) : AV := .agg [itr t.to, itr t.by']
abbrev tsl (ts : List Twist) : AV := .sl 2 (ts.map Twist.sl)
abbrev ttr (ts : List Twist) : AV := .tr 2 (ts.map Twist.tr)
theorem tset (ts : List Twist) (i : Nat) (a b : List Int) : (ts.map Twist.tr).set i (.agg [itr a, itr b]) = (ts.set i ⟨a, b⟩).map Twist.tr := by rw [List.map_set]; rfl
theorem tsnoc (ts : List Twist) (a b : List Int) : ts.map Twist.tr ++ [.agg [itr a, itr b]] = (ts ++ [(⟨a, b⟩ : Twist)]).map Twist.tr := by simp [Twist.tr]
theorem tpure (l : List Twist) : AV.pureL (l.map Twist.tr) = true := pureL_map _ (fun t => by simp [Twist.tr, AV.pure, AV.pureL, ipure]) l
theorem tfz (ts : List Twist) : (ts.map Twist.tr).map AV.fz = ts.map Twist.sl := by
  rw [List.map_map]; exact List.map_congr_left fun a _ => by simp [Twist.tr, Twist.sl, AV.fz, AV.fzL, fzL_map, ints_fz]
structure Invar where
  k : Int
  s : Int
  deriving DecidableEq
instance : Mk Invar := { default := ⟨0, 0⟩, mrk := fun k _ => ⟨k, k + 1⟩, cnt := fun _ => 2 }
def Invar.av (i : Invar) : AV := .agg [.i64 i.k, .i64 i.s]
end Go.AM
set_option maxRecDepth 8000
namespace Go.AM
open Go.Proofs
def nilTw : AV := .agg [.nilsl, .nilsl]
end Go.AM
set_option maxRecDepth 8000
namespace Go.AM
open Go.Proofs
theorem inRange (x lo hi : Int) : SpecAt Try.prog 84 [.i64 x, .i64 lo, .i64 hi] (.bl (within x lo hi)) := by
  refine spec_of_awp (M := MM) (np := 3) (fz := true) mixed Try.func84 rfl rfl (by decide) rfl (Nat.le_refl _) (by decide +kernel) (.inr ⟨rfl, rfl⟩) trivial ?_
  simp -dsimp -implicitDefEqProofs (disch := first | omega | (simp only [lenr]; done) | (simp only [lenr]; omega)) only [↓amPre, amAll, ↓reduceIte, reduceCtorEq, Nat.reduceEqDiff, Nat.reduceBEq, Nat.reduceAdd, Nat.reduceLeDiff, Nat.reduceSub, Nat.reduceMul, Int.reduceToNat, List.size_toArray, tyF, MM, bu0, ipure, kpure, tpure, sspure, kset, tset, ksnoc, tsnoc, Kind.av, Twist.sl, Twist.tr, Invar.av]
  refine ifP_mk ?_ ?_ <;> intro h1
  · simp -dsimp -implicitDefEqProofs (disch := first | omega | (simp only [lenr]; done) | (simp only [lenr]; omega)) only [↓amPre, amAll, ↓reduceIte, reduceCtorEq, Nat.reduceEqDiff, Nat.reduceBEq, Nat.reduceAdd, Nat.reduceLeDiff, Nat.reduceSub, Nat.reduceMul, Int.reduceToNat, List.size_toArray, tyF, MM, bu0, ipure, kpure, tpure, sspure, kset, tset, ksnoc, tsnoc, Kind.av, Twist.sl, Twist.tr, Invar.av, h1]
    simp [within, h1]
  · simp -dsimp -implicitDefEqProofs (disch := first | omega | (simp only [lenr]; done) | (simp only [lenr]; omega)) only [↓amPre, amAll, ↓reduceIte, reduceCtorEq, Nat.reduceEqDiff, Nat.reduceBEq, Nat.reduceAdd, Nat.reduceLeDiff, Nat.reduceSub, Nat.reduceMul, Int.reduceToNat, List.size_toArray, tyF, MM, bu0, ipure, kpure, tpure, sspure, kset, tset, ksnoc, tsnoc, Kind.av, Twist.sl, Twist.tr, Invar.av, h1]
    simp [within, h1]
theorem iwithin (x lo hi : Int) : SpecAt Try.prog 133 [.i64 x, .i64 lo, .i64 hi] (.bl (within x lo hi)) := by
  refine spec_of_awp (M := MM) (np := 3) (fz := true) mixed Try.func133 rfl rfl (by decide) rfl (Nat.le_refl _) (by decide +kernel) (.inr ⟨rfl, rfl⟩) trivial ?_
  simp -dsimp -implicitDefEqProofs (disch := first | omega | (simp only [lenr]; done) | (simp only [lenr]; omega)) only [↓amPre, amAll, ↓reduceIte, reduceCtorEq, Nat.reduceEqDiff, Nat.reduceBEq, Nat.reduceAdd, Nat.reduceLeDiff, Nat.reduceSub, Nat.reduceMul, Int.reduceToNat, List.size_toArray, tyF, MM, bu0, ipure, kpure, tpure, sspure, kset, tset, ksnoc, tsnoc, Kind.av, Twist.sl, Twist.tr, Invar.av]
  refine ifP_mk ?_ ?_ <;> intro h1
  · simp -dsimp -implicitDefEqProofs (disch := first | omega | (simp only [lenr]; done) | (simp only [lenr]; omega)) only [↓amPre, amAll, ↓reduceIte, reduceCtorEq, Nat.reduceEqDiff, Nat.reduceBEq, Nat.reduceAdd, Nat.reduceLeDiff, Nat.reduceSub, Nat.reduceMul, Int.reduceToNat, List.size_toArray, tyF, MM, bu0, ipure, kpure, tpure, sspure, kset, tset, ksnoc, tsnoc, Kind.av, Twist.sl, Twist.tr, Invar.av, h1]
    simp [within, h1]
  · simp -dsimp -implicitDefEqProofs (disch := first | omega | (simp only [lenr]; done) | (simp only [lenr]; omega)) only [↓amPre, amAll, ↓reduceIte, reduceCtorEq, Nat.reduceEqDiff, Nat.reduceBEq, Nat.reduceAdd, Nat.reduceLeDiff, Nat.reduceSub, Nat.reduceMul, Int.reduceToNat, List.size_toArray, tyF, MM, bu0, ipure, kpure, tpure, sspure, kset, tset, ksnoc, tsnoc, Kind.av, Twist.sl, Twist.tr, Invar.av, h1]
    simp [within, h1]
theorem lenI (l : List Int) : SpecAt Try.prog 148 [isl l] (.i64 l.length) := by
  refine spec_of_awp (M := MM) (np := 1) (fz := true) mixed Try.func148 rfl rfl (by decide) rfl (Nat.le_refl _) (by decide +kernel) (.inr ⟨rfl, rfl⟩) trivial ?_
  simp -dsimp -implicitDefEqProofs (disch := first | omega | (simp only [lenr]; done) | (simp only [lenr]; omega)) only [↓amPre, amAll, ↓reduceIte, reduceCtorEq, Nat.reduceEqDiff, Nat.reduceBEq, Nat.reduceAdd, Nat.reduceLeDiff, Nat.reduceSub, Nat.reduceMul, Int.reduceToNat, List.size_toArray, tyF, MM, bu0, ipure, kpure, tpure, sspure, kset, tset, ksnoc, tsnoc, Kind.av, Twist.sl, Twist.tr, Invar.av]
theorem lenK (l : List Kind) : SpecAt Try.prog 81 [ksl l] (.i64 l.length) := by
  refine spec_of_awp (M := MM) (np := 1) (fz := true) mixed Try.func81 rfl rfl (by decide) rfl (Nat.le_refl _) (by decide +kernel) (.inr ⟨rfl, rfl⟩) trivial ?_
  simp -dsimp -implicitDefEqProofs (disch := first | omega | (simp only [lenr]; done) | (simp only [lenr]; omega)) only [↓amPre, amAll, ↓reduceIte, reduceCtorEq, Nat.reduceEqDiff, Nat.reduceBEq, Nat.reduceAdd, Nat.reduceLeDiff, Nat.reduceSub, Nat.reduceMul, Int.reduceToNat, List.size_toArray, tyF, MM, bu0, ipure, kpure, tpure, sspure, kset, tset, ksnoc, tsnoc, Kind.av, Twist.sl, Twist.tr, Invar.av]
theorem containsInt (l : List Int) (x : Int) (hl : l.length ≤ 1099511627776) : SpecAt Try.prog 220 [isl l, .i64 x] (.bl (decide (x ∈ l))) := by
  refine spec_of_awp (M := MM) (np := 2) (fz := true) mixed Try.func220 rfl rfl (by decide) rfl (Nat.le_refl _) (by decide +kernel) (.inr ⟨rfl, rfl⟩) trivial ?_
  simp -dsimp -implicitDefEqProofs (disch := first | omega | (simp only [lenr]; done) | (simp only [lenr]; omega)) only [↓amPre, amAll, ↓reduceIte, reduceCtorEq, Nat.reduceEqDiff, Nat.reduceBEq, Nat.reduceAdd, Nat.reduceLeDiff, Nat.reduceSub, Nat.reduceMul, Int.reduceToNat, List.size_toArray, tyF, MM, bu0, ipure, kpure, tpure, sspure, kset, tset, ksnoc, tsnoc, Kind.av, Twist.sl, Twist.tr, Invar.av]
  refine awp_loop (fun k st => k ≤ l.length ∧ st.fr 5 = .i64 k ∧ st.fr 0 = isl l ∧ st.fr 1 = .i64 x ∧ ∀ y ∈ l.take k, y ≠ x) (l.length) ?_ ?_
  · simp -dsimp -implicitDefEqProofs (disch := first | omega | (simp only [lenr]; done) | (simp only [lenr]; omega)) only [↓amPre, amAll, ↓reduceIte, reduceCtorEq, Nat.reduceEqDiff, Nat.reduceBEq, Nat.reduceAdd, Nat.reduceLeDiff, Nat.reduceSub, Nat.reduceMul, Int.reduceToNat, List.size_toArray, tyF, MM, bu0, ipure, kpure, tpure, sspure, kset, tset, ksnoc, tsnoc, Kind.av, Twist.sl, Twist.tr, Invar.av]
    simp
  rintro k st _ ⟨hk, f5, f0, f1, ek⟩
  by_cases hlt : k < l.length
  · simp -dsimp -implicitDefEqProofs (disch := first | omega | (simp only [lenr]; done) | (simp only [lenr]; omega)) only [↓amPre, amAll, ↓reduceIte, reduceCtorEq, Nat.reduceEqDiff, Nat.reduceBEq, Nat.reduceAdd, Nat.reduceLeDiff, Nat.reduceSub, Nat.reduceMul, Int.reduceToNat, List.size_toArray, tyF, MM, bu0, ipure, kpure, tpure, sspure, kset, tset, ksnoc, tsnoc, Kind.av, Twist.sl, Twist.tr, Invar.av, f5, f0, f1]
    refine ifP_mk ?_ ?_ <;> intro w
    · simp -dsimp -implicitDefEqProofs (disch := first | omega | (simp only [lenr]; done) | (simp only [lenr]; omega)) only [↓amPre, amAll, ↓reduceIte, reduceCtorEq, Nat.reduceEqDiff, Nat.reduceBEq, Nat.reduceAdd, Nat.reduceLeDiff, Nat.reduceSub, Nat.reduceMul, Int.reduceToNat, List.size_toArray, tyF, MM, bu0, ipure, kpure, tpure, sspure, kset, tset, ksnoc, tsnoc, Kind.av, Twist.sl, Twist.tr, Invar.av, w]
      simp only [beq_iff_eq, bne_iff_ne, ne_eq, beq_eq_false_iff_ne, bne_eq_false_iff_eq, decide_eq_true_eq, decide_eq_false_iff_not, Bool.not_eq_true', Bool.not_eq_false', Int.not_lt, Int.not_le, Bool.and_eq_true, Bool.or_eq_true, Bool.and_eq_false_iff, Bool.or_eq_false_iff, Decidable.not_not] at w
      have := mem_getD l k 0 hlt
      rw [w] at this
      simp [this]
    · simp -dsimp -implicitDefEqProofs (disch := first | omega | (simp only [lenr]; done) | (simp only [lenr]; omega)) only [↓amPre, amAll, ↓reduceIte, reduceCtorEq, Nat.reduceEqDiff, Nat.reduceBEq, Nat.reduceAdd, Nat.reduceLeDiff, Nat.reduceSub, Nat.reduceMul, Int.reduceToNat, List.size_toArray, tyF, MM, bu0, ipure, kpure, tpure, sspure, kset, tset, ksnoc, tsnoc, Kind.av, Twist.sl, Twist.tr, Invar.av, w, f5, f0, f1]
      simp only [beq_iff_eq, bne_iff_ne, ne_eq, beq_eq_false_iff_ne, bne_eq_false_iff_eq, decide_eq_true_eq, decide_eq_false_iff_not, Bool.not_eq_true', Bool.not_eq_false', Int.not_lt, Int.not_le, Bool.and_eq_true, Bool.or_eq_true, Bool.and_eq_false_iff, Bool.or_eq_false_iff, Decidable.not_not] at w
      repeat' (first | omega | rfl | exact i64c (by omega) | exact vic (by omega) | exact (mem_take_succ (d := 0) hlt).2 ⟨ek, w⟩ | apply And.intro)
  · have hke : k = l.length := by omega
    subst hke
    simp -dsimp -implicitDefEqProofs (disch := first | omega | (simp only [lenr]; done) | (simp only [lenr]; omega)) only [↓amPre, amAll, ↓reduceIte, reduceCtorEq, Nat.reduceEqDiff, Nat.reduceBEq, Nat.reduceAdd, Nat.reduceLeDiff, Nat.reduceSub, Nat.reduceMul, Int.reduceToNat, List.size_toArray, tyF, MM, bu0, ipure, kpure, tpure, sspure, kset, tset, ksnoc, tsnoc, Kind.av, Twist.sl, Twist.tr, Invar.av, f5, f0, f1]
    rw [List.take_length] at ek
    have : ¬ x ∈ l := fun q => ek x q rfl
    simp [this]
theorem sIsPerm (p : List Int) (hl : p.length ≤ 1099511627776) : SpecAt Try.prog 161 [isl p] (.bl (decide (isPerm p))) := by
  refine spec_of_awp (M := MM) (np := 1) (fz := true) mixed Try.func161 rfl rfl (by decide) rfl (Nat.le_refl _) (by decide +kernel) (.inr ⟨rfl, rfl⟩) trivial ?_
  simp -dsimp -implicitDefEqProofs (disch := first | omega | (simp only [lenr]; done) | (simp only [lenr]; omega)) only [↓amPre, amAll, ↓reduceIte, reduceCtorEq, Nat.reduceEqDiff, Nat.reduceBEq, Nat.reduceAdd, Nat.reduceLeDiff, Nat.reduceSub, Nat.reduceMul, Int.reduceToNat, List.size_toArray, tyF, MM, bu0, ipure, kpure, tpure, sspure, kset, tset, ksnoc, tsnoc, Kind.av, Twist.sl, Twist.tr, Invar.av]
  refine callP_of (inRange _ _ _) ?_
  cases w : within p.length 1 20 with
  | false =>
    simp -dsimp -implicitDefEqProofs (disch := first | omega | (simp only [lenr]; done) | (simp only [lenr]; omega)) only [↓amPre, amAll, ↓reduceIte, reduceCtorEq, Nat.reduceEqDiff, Nat.reduceBEq, Nat.reduceAdd, Nat.reduceLeDiff, Nat.reduceSub, Nat.reduceMul, Int.reduceToNat, List.size_toArray, tyF, MM, bu0, ipure, kpure, tpure, sspure, kset, tset, ksnoc, tsnoc, Kind.av, Twist.sl, Twist.tr, Invar.av, w]
    rw [within_not] at w
    have : ¬ isPerm p := fun h => by unfold isPerm at h; omega
    simp [this]
  | true =>
  rw [within_iff] at w
  simp -dsimp -implicitDefEqProofs (disch := first | omega | (simp only [lenr]; done) | (simp only [lenr]; omega)) only [↓amPre, amAll, ↓reduceIte, reduceCtorEq, Nat.reduceEqDiff, Nat.reduceBEq, Nat.reduceAdd, Nat.reduceLeDiff, Nat.reduceSub, Nat.reduceMul, Int.reduceToNat, List.size_toArray, tyF, MM, bu0, ipure, kpure, tpure, sspure, kset, tset, ksnoc, tsnoc, Kind.av, Twist.sl, Twist.tr, Invar.av, within_iff.2 w]
  refine awp_loop (fun k st => k ≤ p.length ∧ st.fr 4 = .i64 k ∧ st.fr 0 = isl p ∧ st.fr 3 = .i64 p.length ∧ (∀ x ∈ p.take k, 0 ≤ x ∧ x < p.length) ∧ (p.take k).Nodup) (p.length) ?_ ?_
  · simp -dsimp -implicitDefEqProofs (disch := first | omega | (simp only [lenr]; done) | (simp only [lenr]; omega)) only [↓amPre, amAll, ↓reduceIte, reduceCtorEq, Nat.reduceEqDiff, Nat.reduceBEq, Nat.reduceAdd, Nat.reduceLeDiff, Nat.reduceSub, Nat.reduceMul, Int.reduceToNat, List.size_toArray, tyF, MM, bu0, ipure, kpure, tpure, sspure, kset, tset, ksnoc, tsnoc, Kind.av, Twist.sl, Twist.tr, Invar.av]
    simp
  rintro k st _ ⟨hk, f4, f0, f3, ek⟩
  by_cases hlt : k < p.length
  · have hmem := mem_getD p k 0 hlt
    simp -dsimp -implicitDefEqProofs (disch := first | omega | (simp only [lenr]; done) | (simp only [lenr]; omega)) only [↓amPre, amAll, ↓reduceIte, reduceCtorEq, Nat.reduceEqDiff, Nat.reduceBEq, Nat.reduceAdd, Nat.reduceLeDiff, Nat.reduceSub, Nat.reduceMul, Int.reduceToNat, List.size_toArray, tyF, MM, bu0, ipure, kpure, tpure, sspure, kset, tset, ksnoc, tsnoc, Kind.av, Twist.sl, Twist.tr, Invar.av, f4, f0, f3]
    refine callP_of (inRange _ _ _) ?_
    cases w2 : within (p.getD k 0) 0 (p.length - 1) with
    | false =>
      simp -dsimp -implicitDefEqProofs (disch := first | omega | (simp only [lenr]; done) | (simp only [lenr]; omega)) only [↓amPre, amAll, ↓reduceIte, reduceCtorEq, Nat.reduceEqDiff, Nat.reduceBEq, Nat.reduceAdd, Nat.reduceLeDiff, Nat.reduceSub, Nat.reduceMul, Int.reduceToNat, List.size_toArray, tyF, MM, bu0, ipure, kpure, tpure, sspure, kset, tset, ksnoc, tsnoc, Kind.av, Twist.sl, Twist.tr, Invar.av, w2]
      rw [within_not] at w2
      have : ¬ isPerm p := fun h => by have := h.2.1 _ hmem; omega
      simp [this]
    | true =>
    simp -dsimp -implicitDefEqProofs (disch := first | omega | (simp only [lenr]; done) | (simp only [lenr]; omega)) only [↓amPre, amAll, ↓reduceIte, reduceCtorEq, Nat.reduceEqDiff, Nat.reduceBEq, Nat.reduceAdd, Nat.reduceLeDiff, Nat.reduceSub, Nat.reduceMul, Int.reduceToNat, List.size_toArray, tyF, MM, bu0, ipure, kpure, tpure, sspure, kset, tset, ksnoc, tsnoc, Kind.av, Twist.sl, Twist.tr, Invar.av, w2, f4, f0, f3]
    refine callP_of (containsInt _ _ (by simp; omega)) ?_
    have hs := take_succ_eq p k 0 hlt
    cases w3 : decide (p.getD k 0 ∈ p.take k) with
    | true =>
      simp -dsimp -implicitDefEqProofs (disch := first | omega | (simp only [lenr]; done) | (simp only [lenr]; omega)) only [↓amPre, amAll, ↓reduceIte, reduceCtorEq, Nat.reduceEqDiff, Nat.reduceBEq, Nat.reduceAdd, Nat.reduceLeDiff, Nat.reduceSub, Nat.reduceMul, Int.reduceToNat, List.size_toArray, tyF, MM, bu0, ipure, kpure, tpure, sspure, kset, tset, ksnoc, tsnoc, Kind.av, Twist.sl, Twist.tr, Invar.av, w3]
      simp only [beq_iff_eq, bne_iff_ne, ne_eq, beq_eq_false_iff_ne, bne_eq_false_iff_eq, decide_eq_true_eq, decide_eq_false_iff_not, Bool.not_eq_true', Bool.not_eq_false', Int.not_lt, Int.not_le, Bool.and_eq_true, Bool.or_eq_true, Bool.and_eq_false_iff, Bool.or_eq_false_iff, Decidable.not_not] at w3
      have : ¬ isPerm p := fun h => by
        have h2 := h.2.2
        have h3 : (p.take (k + 1)).Nodup := h2.sublist (List.take_sublist _ _)
        rw [hs, List.nodup_append] at h3
        exact h3.2.2 _ (by simpa using w3) _ (by simp) rfl
      simp [this]
    | false =>
      simp -dsimp -implicitDefEqProofs (disch := first | omega | (simp only [lenr]; done) | (simp only [lenr]; omega)) only [↓amPre, amAll, ↓reduceIte, reduceCtorEq, Nat.reduceEqDiff, Nat.reduceBEq, Nat.reduceAdd, Nat.reduceLeDiff, Nat.reduceSub, Nat.reduceMul, Int.reduceToNat, List.size_toArray, tyF, MM, bu0, ipure, kpure, tpure, sspure, kset, tset, ksnoc, tsnoc, Kind.av, Twist.sl, Twist.tr, Invar.av, w3, f4, f0, f3]
      simp only [decide_eq_false_iff_not] at w3
      rw [within_iff] at w2
      refine ⟨hlt, hlt, ?_, ?_⟩
      · rw [mem_take_succ (d := 0) hlt]; exact ⟨ek.1, by omega⟩
      · rw [hs, List.nodup_append]
        refine ⟨ek.2, by simp, ?_⟩
        intro a ha b hb e
        simp only [List.mem_singleton] at hb
        rw [e, hb] at ha; exact w3 ha
  · have hke : k = p.length := by omega
    subst hke
    rw [List.take_length] at ek
    simp -dsimp -implicitDefEqProofs (disch := first | omega | (simp only [lenr]; done) | (simp only [lenr]; omega)) only [↓amPre, amAll, ↓reduceIte, reduceCtorEq, Nat.reduceEqDiff, Nat.reduceBEq, Nat.reduceAdd, Nat.reduceLeDiff, Nat.reduceSub, Nat.reduceMul, Int.reduceToNat, List.size_toArray, tyF, MM, bu0, ipure, kpure, tpure, sspure, kset, tset, ksnoc, tsnoc, Kind.av, Twist.sl, Twist.tr, Invar.av, f4, f0, f3]
    have : isPerm p := ⟨by omega, ek.1, ek.2⟩
    simp [this]
theorem iIsPerm (p : List Int) (hl : p.length ≤ 1099511627776) : SpecAt Try.prog 212 [isl p] (.bl (decide (isPerm p))) := by
  refine spec_of_awp (M := MM) (np := 1) (fz := true) mixed Try.func212 rfl rfl (by decide) rfl (Nat.le_refl _) (by decide +kernel) (.inr ⟨rfl, rfl⟩) trivial ?_
  simp -dsimp -implicitDefEqProofs (disch := first | omega | (simp only [lenr]; done) | (simp only [lenr]; omega)) only [↓amPre, amAll, ↓reduceIte, reduceCtorEq, Nat.reduceEqDiff, Nat.reduceBEq, Nat.reduceAdd, Nat.reduceLeDiff, Nat.reduceSub, Nat.reduceMul, Int.reduceToNat, List.size_toArray, tyF, MM, bu0, ipure, kpure, tpure, sspure, kset, tset, ksnoc, tsnoc, Kind.av, Twist.sl, Twist.tr, Invar.av]
  refine callP_of (lenI _) ?_
  simp -dsimp -implicitDefEqProofs (disch := first | omega | (simp only [lenr]; done) | (simp only [lenr]; omega)) only [↓amPre, amAll, ↓reduceIte, reduceCtorEq, Nat.reduceEqDiff, Nat.reduceBEq, Nat.reduceAdd, Nat.reduceLeDiff, Nat.reduceSub, Nat.reduceMul, Int.reduceToNat, List.size_toArray, tyF, MM, bu0, ipure, kpure, tpure, sspure, kset, tset, ksnoc, tsnoc, Kind.av, Twist.sl, Twist.tr, Invar.av]
  refine callP_of (iwithin _ _ _) ?_
  cases w : within p.length 1 20 with
  | false =>
    simp -dsimp -implicitDefEqProofs (disch := first | omega | (simp only [lenr]; done) | (simp only [lenr]; omega)) only [↓amPre, amAll, ↓reduceIte, reduceCtorEq, Nat.reduceEqDiff, Nat.reduceBEq, Nat.reduceAdd, Nat.reduceLeDiff, Nat.reduceSub, Nat.reduceMul, Int.reduceToNat, List.size_toArray, tyF, MM, bu0, ipure, kpure, tpure, sspure, kset, tset, ksnoc, tsnoc, Kind.av, Twist.sl, Twist.tr, Invar.av, w]
    rw [within_not] at w
    have : ¬ isPerm p := fun h => by unfold isPerm at h; omega
    simp [this]
  | true =>
  rw [within_iff] at w
  simp -dsimp -implicitDefEqProofs (disch := first | omega | (simp only [lenr]; done) | (simp only [lenr]; omega)) only [↓amPre, amAll, ↓reduceIte, reduceCtorEq, Nat.reduceEqDiff, Nat.reduceBEq, Nat.reduceAdd, Nat.reduceLeDiff, Nat.reduceSub, Nat.reduceMul, Int.reduceToNat, List.size_toArray, tyF, MM, bu0, ipure, kpure, tpure, sspure, kset, tset, ksnoc, tsnoc, Kind.av, Twist.sl, Twist.tr, Invar.av, within_iff.2 w]
  refine awp_loop (fun k st => k ≤ p.length ∧ st.fr 12 = .i64 k ∧ st.fr 0 = isl p ∧ st.fr 10 = isl p ∧ st.fr 11 = .i64 p.length ∧ st.fr 3 = .i64 (mask (p.take k)) ∧ (∀ x ∈ p.take k, 0 ≤ x ∧ x < p.length)) (p.length) ?_ ?_
  · simp -dsimp -implicitDefEqProofs (disch := first | omega | (simp only [lenr]; done) | (simp only [lenr]; omega)) only [↓amPre, amAll, ↓reduceIte, reduceCtorEq, Nat.reduceEqDiff, Nat.reduceBEq, Nat.reduceAdd, Nat.reduceLeDiff, Nat.reduceSub, Nat.reduceMul, Int.reduceToNat, List.size_toArray, tyF, MM, bu0, ipure, kpure, tpure, sspure, kset, tset, ksnoc, tsnoc, Kind.av, Twist.sl, Twist.tr, Invar.av]
    simp [mask, maskN]
  rintro k st _ ⟨hk, f12, f0, f10, f11, f3, ek⟩
  by_cases hlt : k < p.length
  · have hmem := mem_getD p k 0 hlt
    simp -dsimp -implicitDefEqProofs (disch := first | omega | (simp only [lenr]; done) | (simp only [lenr]; omega)) only [↓amPre, amAll, ↓reduceIte, reduceCtorEq, Nat.reduceEqDiff, Nat.reduceBEq, Nat.reduceAdd, Nat.reduceLeDiff, Nat.reduceSub, Nat.reduceMul, Int.reduceToNat, List.size_toArray, tyF, MM, bu0, ipure, kpure, tpure, sspure, kset, tset, ksnoc, tsnoc, Kind.av, Twist.sl, Twist.tr, Invar.av, f12, f0, f10, f11, f3]
    refine callP_of (lenI _) ?_
    simp -dsimp -implicitDefEqProofs (disch := first | omega | (simp only [lenr]; done) | (simp only [lenr]; omega)) only [↓amPre, amAll, ↓reduceIte, reduceCtorEq, Nat.reduceEqDiff, Nat.reduceBEq, Nat.reduceAdd, Nat.reduceLeDiff, Nat.reduceSub, Nat.reduceMul, Int.reduceToNat, List.size_toArray, tyF, MM, bu0, ipure, kpure, tpure, sspure, kset, tset, ksnoc, tsnoc, Kind.av, Twist.sl, Twist.tr, Invar.av, f12, f0, f10, f11, f3]
    refine callP_of (iwithin _ _ _) ?_
    cases w2 : within (p.getD k 0) 0 (p.length - 1) with
    | false =>
      simp -dsimp -implicitDefEqProofs (disch := first | omega | (simp only [lenr]; done) | (simp only [lenr]; omega)) only [↓amPre, amAll, ↓reduceIte, reduceCtorEq, Nat.reduceEqDiff, Nat.reduceBEq, Nat.reduceAdd, Nat.reduceLeDiff, Nat.reduceSub, Nat.reduceMul, Int.reduceToNat, List.size_toArray, tyF, MM, bu0, ipure, kpure, tpure, sspure, kset, tset, ksnoc, tsnoc, Kind.av, Twist.sl, Twist.tr, Invar.av, w2]
      rw [within_not] at w2
      have : ¬ isPerm p := fun h => by have := h.2.1 _ hmem; omega
      simp [this]
    | true =>
    have w2' := within_iff.1 w2
    obtain ⟨n, hn⟩ : ∃ n : Nat, p.getD k 0 = n := ⟨(p.getD k 0).toNat, by omega⟩
    have hn20 : n < 20 := by omega
    have hp : (2:Nat) ^ n < 2 ^ 20 := Nat.pow_lt_pow_right (by decide) hn20
    have hsh : IntKind.i64.wrap (1 * 2 ^ (min (p.getD k 0).toNat 64)) = ((2 ^ n : Nat) : Int) := by
      have e2 : (2:Int) ^ n = ((2 ^ n : Nat) : Int) := by simp
      rw [hn, Int.toNat_natCast, Nat.min_eq_left (by omega), Int.one_mul, e2]
      generalize (2 ^ n : Nat) = m at hp ⊢
      exact wrap64_id (by omega)
    have hm1 := mask_lt (p.take k) 20 fun x hx => by have := ek x hx; omega
    have hm2 := mask_lt (p.take k) p.length ek
    have hor : bitsI .or .i64 (mask (p.take k) : Int) ((2 ^ n : Nat) : Int) = ((mask (p.take (k + 1)) : Nat) : Int) := by
      rw [bits_or _ _ (by omega) (by omega), take_succ_eq p k 0 hlt, mask_snoc, hn, Int.toNat_natCast]
    have hb : (IntKind.i64.bits) = 64 := rfl
    simp -dsimp -implicitDefEqProofs (disch := first | omega | (simp only [lenr]; done) | (simp only [lenr]; omega)) only [↓amPre, amAll, ↓reduceIte, reduceCtorEq, Nat.reduceEqDiff, Nat.reduceBEq, Nat.reduceAdd, Nat.reduceLeDiff, Nat.reduceSub, Nat.reduceMul, Int.reduceToNat, List.size_toArray, tyF, MM, bu0, ipure, kpure, tpure, sspure, kset, tset, ksnoc, tsnoc, Kind.av, Twist.sl, Twist.tr, Invar.av, w2, f12, f0, f10, f11, f3, hb, hsh, hor]
    refine ⟨hlt, hlt, ?_⟩
    rw [mem_take_succ (d := 0) hlt]; exact ⟨ek, by omega⟩
  · have hke : k = p.length := by omega
    subst hke
    rw [List.take_length] at ek f3
    have hp : (2:Nat) ^ p.length ≤ 2 ^ 20 := Nat.pow_le_pow_right (by decide) (by omega)
    have hsh : IntKind.i64.wrap (1 * 2 ^ (min p.length 64)) = ((2 ^ p.length : Nat) : Int) := by
      have e2 : (2:Int) ^ p.length = ((2 ^ p.length : Nat) : Int) := by simp
      rw [Nat.min_eq_left (by omega), Int.one_mul, e2]
      generalize (2 ^ p.length : Nat) = m at hp ⊢
      exact wrap64_id (by omega)
    have hwr : IntKind.i64.wrap (((2 ^ p.length : Nat) : Int) - 1) = ((2 ^ p.length : Nat) : Int) - 1 := by
      generalize (2 ^ p.length : Nat) = m at hp ⊢
      exact wrap64_id (by omega)
    have hb : (IntKind.i64.bits) = 64 := rfl
    simp -dsimp -implicitDefEqProofs (disch := first | omega | (simp only [lenr]; done) | (simp only [lenr]; omega)) only [↓amPre, amAll, ↓reduceIte, reduceCtorEq, Nat.reduceEqDiff, Nat.reduceBEq, Nat.reduceAdd, Nat.reduceLeDiff, Nat.reduceSub, Nat.reduceMul, Int.reduceToNat, List.size_toArray, tyF, MM, bu0, ipure, kpure, tpure, sspure, kset, tset, ksnoc, tsnoc, Kind.av, Twist.sl, Twist.tr, Invar.av, f12, f0, f10, f11, f3, hb, hsh, hwr]
    refine bl_eq ?_
    have h1 := mask_perm p ek
    have h2 : (0:Nat) < 2 ^ p.length := Nat.pow_pos (by decide)
    have h3 : isPerm p ↔ p.Nodup := ⟨fun h => h.2.2, fun h => ⟨by omega, ek, h⟩⟩
    simp only [beq_iff_eq, decide_eq_true_eq, h3, ← h1]
    generalize (2 ^ p.length : Nat) = m at h2 ⊢
    omega
end Go.AM
set_option maxRecDepth 8000
namespace Go.AM
open Go.Proofs
theorem kOk_of {k : Kind} (w1 : within k.c 1 20 = true) (w2 : within k.o 1 20 = true) : kOk k := ⟨within_iff.1 w1, within_iff.1 w2⟩
def fcI (l : List Kind) : Int := if ∀ k ∈ l, kOk k then facets l else 21
theorem ifaceletCount (l : List Kind) (hl : l.length ≤ 3) : SpecAt Try.prog 94 [ksl l] (.i64 (fcI l)) := by
  refine spec_of_awp (M := MM) (np := 1) (fz := true) mixed Try.func94 rfl rfl (by decide) rfl (Nat.le_refl _) (by decide +kernel) (.inr ⟨rfl, rfl⟩) trivial ?_
  simp -dsimp -implicitDefEqProofs (disch := first | omega | (simp only [lenr]; done) | (simp only [lenr]; omega)) only [↓amPre, amAll, ↓reduceIte, reduceCtorEq, Nat.reduceEqDiff, Nat.reduceBEq, Nat.reduceAdd, Nat.reduceLeDiff, Nat.reduceSub, Nat.reduceMul, Int.reduceToNat, List.size_toArray, tyF, MM, bu0, ipure, kpure, tpure, sspure, kset, tset, ksnoc, tsnoc, Kind.av, Twist.sl, Twist.tr, Invar.av]
  refine awp_loop (fun k st => k ≤ l.length ∧ st.fr 8 = .i64 k ∧ st.fr 7 = .i64 l.length ∧ st.fr 6 = ksl l ∧ st.fr 3 = .i64 (facets (l.take k)) ∧ ∀ x ∈ l.take k, kOk x) (l.length) ?_ ?_
  · simp -dsimp -implicitDefEqProofs (disch := first | omega | (simp only [lenr]; done) | (simp only [lenr]; omega)) only [↓amPre, amAll, ↓reduceIte, reduceCtorEq, Nat.reduceEqDiff, Nat.reduceBEq, Nat.reduceAdd, Nat.reduceLeDiff, Nat.reduceSub, Nat.reduceMul, Int.reduceToNat, List.size_toArray, tyF, MM, bu0, ipure, kpure, tpure, sspure, kset, tset, ksnoc, tsnoc, Kind.av, Twist.sl, Twist.tr, Invar.av]
    simp [facets]
  rintro k st _ ⟨hk, f8, f7, f6, f3, ek⟩
  by_cases hlt : k < l.length
  · have hmem := mem_getD l k default hlt
    have hb := facets_bound (l.take k) ek
    rw [List.length_take, Nat.min_eq_left (by omega)] at hb
    have ft := facets_take l k hlt
    simp -dsimp -implicitDefEqProofs (disch := first | omega | (simp only [lenr]; done) | (simp only [lenr]; omega)) only [↓amPre, amAll, ↓reduceIte, reduceCtorEq, Nat.reduceEqDiff, Nat.reduceBEq, Nat.reduceAdd, Nat.reduceLeDiff, Nat.reduceSub, Nat.reduceMul, Int.reduceToNat, List.size_toArray, tyF, MM, bu0, ipure, kpure, tpure, sspure, kset, tset, ksnoc, tsnoc, Kind.av, Twist.sl, Twist.tr, Invar.av, f8, f7, f6, f3]
    refine callP_of (iwithin _ _ _) ?_
    cases w1 : within (l.getD k default).c 1 20 with
    | false =>
      simp -dsimp -implicitDefEqProofs (disch := first | omega | (simp only [lenr]; done) | (simp only [lenr]; omega)) only [↓amPre, amAll, ↓reduceIte, reduceCtorEq, Nat.reduceEqDiff, Nat.reduceBEq, Nat.reduceAdd, Nat.reduceLeDiff, Nat.reduceSub, Nat.reduceMul, Int.reduceToNat, List.size_toArray, tyF, MM, bu0, ipure, kpure, tpure, sspure, kset, tset, ksnoc, tsnoc, Kind.av, Twist.sl, Twist.tr, Invar.av, w1]
      rw [fcI, if_neg]
      intro h; have := within_iff.2 (h _ hmem).1; rw [w1] at this; cases this
    | true =>
    simp -dsimp -implicitDefEqProofs (disch := first | omega | (simp only [lenr]; done) | (simp only [lenr]; omega)) only [↓amPre, amAll, ↓reduceIte, reduceCtorEq, Nat.reduceEqDiff, Nat.reduceBEq, Nat.reduceAdd, Nat.reduceLeDiff, Nat.reduceSub, Nat.reduceMul, Int.reduceToNat, List.size_toArray, tyF, MM, bu0, ipure, kpure, tpure, sspure, kset, tset, ksnoc, tsnoc, Kind.av, Twist.sl, Twist.tr, Invar.av, w1]
    refine callP_of (iwithin _ _ _) ?_
    cases w2 : within (l.getD k default).o 1 20 with
    | false =>
      simp -dsimp -implicitDefEqProofs (disch := first | omega | (simp only [lenr]; done) | (simp only [lenr]; omega)) only [↓amPre, amAll, ↓reduceIte, reduceCtorEq, Nat.reduceEqDiff, Nat.reduceBEq, Nat.reduceAdd, Nat.reduceLeDiff, Nat.reduceSub, Nat.reduceMul, Int.reduceToNat, List.size_toArray, tyF, MM, bu0, ipure, kpure, tpure, sspure, kset, tset, ksnoc, tsnoc, Kind.av, Twist.sl, Twist.tr, Invar.av, w1, w2]
      rw [fcI, if_neg]
      intro h; have := within_iff.2 (h _ hmem).2; rw [w2] at this; cases this
    | true =>
    have hk := kOk_of w1 w2
    have hp := kOk_prod hk
    simp -dsimp -implicitDefEqProofs (disch := first | omega | (simp only [lenr]; done) | (simp only [lenr]; omega)) only [↓amPre, amAll, ↓reduceIte, reduceCtorEq, Nat.reduceEqDiff, Nat.reduceBEq, Nat.reduceAdd, Nat.reduceLeDiff, Nat.reduceSub, Nat.reduceMul, Int.reduceToNat, List.size_toArray, tyF, MM, bu0, ipure, kpure, tpure, sspure, kset, tset, ksnoc, tsnoc, Kind.av, Twist.sl, Twist.tr, Invar.av, w1, w2, f8, f7, f6, f3, ← ft]
    repeat' (first | omega | rfl | exact i64c (by omega) | exact vic (by omega) | exact (mem_take_succ (d := default) hlt).2 ⟨ek, hk⟩ | apply And.intro)
  · have hke : k = l.length := by omega
    subst hke
    simp -dsimp -implicitDefEqProofs (disch := first | omega | (simp only [lenr]; done) | (simp only [lenr]; omega)) only [↓amPre, amAll, ↓reduceIte, reduceCtorEq, Nat.reduceEqDiff, Nat.reduceBEq, Nat.reduceAdd, Nat.reduceLeDiff, Nat.reduceSub, Nat.reduceMul, Int.reduceToNat, List.size_toArray, tyF, MM, bu0, ipure, kpure, tpure, sspure, kset, tset, ksnoc, tsnoc, Kind.av, Twist.sl, Twist.tr, Invar.av, f8, f7, f6, f3, List.take_length]
    rw [List.take_length] at ek
    rw [fcI, if_pos ek]
theorem iAreValidKinds (l : List Kind) (hl : l.length ≤ 1099511627776) : SpecAt Try.prog 98 [ksl l] (.bl (decide (kindsOk l))) := by
  refine spec_of_awp (M := MM) (np := 1) (fz := true) mixed Try.func98 rfl rfl (by decide) rfl (Nat.le_refl _) (by decide +kernel) (.inr ⟨rfl, rfl⟩) trivial ?_
  simp -dsimp -implicitDefEqProofs (disch := first | omega | (simp only [lenr]; done) | (simp only [lenr]; omega)) only [↓amPre, amAll, ↓reduceIte, reduceCtorEq, Nat.reduceEqDiff, Nat.reduceBEq, Nat.reduceAdd, Nat.reduceLeDiff, Nat.reduceSub, Nat.reduceMul, Int.reduceToNat, List.size_toArray, tyF, MM, bu0, ipure, kpure, tpure, sspure, kset, tset, ksnoc, tsnoc, Kind.av, Twist.sl, Twist.tr, Invar.av]
  refine callP_of (lenK _) ?_
  simp -dsimp -implicitDefEqProofs (disch := first | omega | (simp only [lenr]; done) | (simp only [lenr]; omega)) only [↓amPre, amAll, ↓reduceIte, reduceCtorEq, Nat.reduceEqDiff, Nat.reduceBEq, Nat.reduceAdd, Nat.reduceLeDiff, Nat.reduceSub, Nat.reduceMul, Int.reduceToNat, List.size_toArray, tyF, MM, bu0, ipure, kpure, tpure, sspure, kset, tset, ksnoc, tsnoc, Kind.av, Twist.sl, Twist.tr, Invar.av]
  refine callP_of (iwithin _ _ _) ?_
  cases w : within l.length 1 3 with
  | false =>
    simp -dsimp -implicitDefEqProofs (disch := first | omega | (simp only [lenr]; done) | (simp only [lenr]; omega)) only [↓amPre, amAll, ↓reduceIte, reduceCtorEq, Nat.reduceEqDiff, Nat.reduceBEq, Nat.reduceAdd, Nat.reduceLeDiff, Nat.reduceSub, Nat.reduceMul, Int.reduceToNat, List.size_toArray, tyF, MM, bu0, ipure, kpure, tpure, sspure, kset, tset, ksnoc, tsnoc, Kind.av, Twist.sl, Twist.tr, Invar.av, w]
    rw [within_not] at w
    have : ¬ kindsOk l := fun h => by have := h.1; omega
    simp [this]
  | true =>
  have w' := within_iff.1 w
  simp -dsimp -implicitDefEqProofs (disch := first | omega | (simp only [lenr]; done) | (simp only [lenr]; omega)) only [↓amPre, amAll, ↓reduceIte, reduceCtorEq, Nat.reduceEqDiff, Nat.reduceBEq, Nat.reduceAdd, Nat.reduceLeDiff, Nat.reduceSub, Nat.reduceMul, Int.reduceToNat, List.size_toArray, tyF, MM, bu0, ipure, kpure, tpure, sspure, kset, tset, ksnoc, tsnoc, Kind.av, Twist.sl, Twist.tr, Invar.av, w]
  refine callP_of (ifaceletCount _ (by omega)) ?_
  simp -dsimp -implicitDefEqProofs (disch := first | omega | (simp only [lenr]; done) | (simp only [lenr]; omega)) only [↓amPre, amAll, ↓reduceIte, reduceCtorEq, Nat.reduceEqDiff, Nat.reduceBEq, Nat.reduceAdd, Nat.reduceLeDiff, Nat.reduceSub, Nat.reduceMul, Int.reduceToNat, List.size_toArray, tyF, MM, bu0, ipure, kpure, tpure, sspure, kset, tset, ksnoc, tsnoc, Kind.av, Twist.sl, Twist.tr, Invar.av, w]
  refine bl_eq ?_
  simp only [decide_eq_true_eq]
  unfold fcI kindsOk
  split
  · rename_i h; exact ⟨fun q => ⟨by omega, h, q⟩, fun q => q.2.2⟩
  · rename_i h; exact ⟨fun q => by omega, fun q => (h q.2.1).elim⟩
theorem sAreValidKinds (l : List Kind) (hl : l.length ≤ 1099511627776) : SpecAt Try.prog 83 [ksl l] (.bl (decide (kindsOk l))) := by
  refine spec_of_awp (M := MM) (np := 1) (fz := true) mixed Try.func83 rfl rfl (by decide) rfl (Nat.le_refl _) (by decide +kernel) (.inr ⟨rfl, rfl⟩) trivial ?_
  simp -dsimp -implicitDefEqProofs (disch := first | omega | (simp only [lenr]; done) | (simp only [lenr]; omega)) only [↓amPre, amAll, ↓reduceIte, reduceCtorEq, Nat.reduceEqDiff, Nat.reduceBEq, Nat.reduceAdd, Nat.reduceLeDiff, Nat.reduceSub, Nat.reduceMul, Int.reduceToNat, List.size_toArray, tyF, MM, bu0, ipure, kpure, tpure, sspure, kset, tset, ksnoc, tsnoc, Kind.av, Twist.sl, Twist.tr, Invar.av]
  refine callP_of (inRange _ _ _) ?_
  cases w : within l.length 1 3 with
  | false =>
    simp -dsimp -implicitDefEqProofs (disch := first | omega | (simp only [lenr]; done) | (simp only [lenr]; omega)) only [↓amPre, amAll, ↓reduceIte, reduceCtorEq, Nat.reduceEqDiff, Nat.reduceBEq, Nat.reduceAdd, Nat.reduceLeDiff, Nat.reduceSub, Nat.reduceMul, Int.reduceToNat, List.size_toArray, tyF, MM, bu0, ipure, kpure, tpure, sspure, kset, tset, ksnoc, tsnoc, Kind.av, Twist.sl, Twist.tr, Invar.av, w]
    rw [within_not] at w
    have : ¬ kindsOk l := fun h => by have := h.1; omega
    simp [this]
  | true =>
  have w' := within_iff.1 w
  simp -dsimp -implicitDefEqProofs (disch := first | omega | (simp only [lenr]; done) | (simp only [lenr]; omega)) only [↓amPre, amAll, ↓reduceIte, reduceCtorEq, Nat.reduceEqDiff, Nat.reduceBEq, Nat.reduceAdd, Nat.reduceLeDiff, Nat.reduceSub, Nat.reduceMul, Int.reduceToNat, List.size_toArray, tyF, MM, bu0, ipure, kpure, tpure, sspure, kset, tset, ksnoc, tsnoc, Kind.av, Twist.sl, Twist.tr, Invar.av, w]
  refine awp_loop (fun k st => k ≤ l.length ∧ st.fr 4 = .i64 k ∧ st.fr 0 = ksl l ∧ st.fr 3 = .i64 (facets (l.take k)) ∧ ∀ x ∈ l.take k, kOk x) (l.length) ?_ ?_
  · simp -dsimp -implicitDefEqProofs (disch := first | omega | (simp only [lenr]; done) | (simp only [lenr]; omega)) only [↓amPre, amAll, ↓reduceIte, reduceCtorEq, Nat.reduceEqDiff, Nat.reduceBEq, Nat.reduceAdd, Nat.reduceLeDiff, Nat.reduceSub, Nat.reduceMul, Int.reduceToNat, List.size_toArray, tyF, MM, bu0, ipure, kpure, tpure, sspure, kset, tset, ksnoc, tsnoc, Kind.av, Twist.sl, Twist.tr, Invar.av]
    simp [facets]
  rintro k st _ ⟨hk, f4, f0, f3, ek⟩
  by_cases hlt : k < l.length
  · have hmem := mem_getD l k default hlt
    have hb := facets_bound (l.take k) ek
    rw [List.length_take, Nat.min_eq_left (by omega)] at hb
    have ft := facets_take l k hlt
    simp -dsimp -implicitDefEqProofs (disch := first | omega | (simp only [lenr]; done) | (simp only [lenr]; omega)) only [↓amPre, amAll, ↓reduceIte, reduceCtorEq, Nat.reduceEqDiff, Nat.reduceBEq, Nat.reduceAdd, Nat.reduceLeDiff, Nat.reduceSub, Nat.reduceMul, Int.reduceToNat, List.size_toArray, tyF, MM, bu0, ipure, kpure, tpure, sspure, kset, tset, ksnoc, tsnoc, Kind.av, Twist.sl, Twist.tr, Invar.av, f4, f0, f3]
    refine callP_of (inRange _ _ _) ?_
    cases w1 : within (l.getD k default).c 1 20 with
    | false =>
      simp -dsimp -implicitDefEqProofs (disch := first | omega | (simp only [lenr]; done) | (simp only [lenr]; omega)) only [↓amPre, amAll, ↓reduceIte, reduceCtorEq, Nat.reduceEqDiff, Nat.reduceBEq, Nat.reduceAdd, Nat.reduceLeDiff, Nat.reduceSub, Nat.reduceMul, Int.reduceToNat, List.size_toArray, tyF, MM, bu0, ipure, kpure, tpure, sspure, kset, tset, ksnoc, tsnoc, Kind.av, Twist.sl, Twist.tr, Invar.av, w1]
      have : ¬ kindsOk l := fun h => by have := within_iff.2 (h.2.1 _ hmem).1; rw [w1] at this; cases this
      simp [this]
    | true =>
    simp -dsimp -implicitDefEqProofs (disch := first | omega | (simp only [lenr]; done) | (simp only [lenr]; omega)) only [↓amPre, amAll, ↓reduceIte, reduceCtorEq, Nat.reduceEqDiff, Nat.reduceBEq, Nat.reduceAdd, Nat.reduceLeDiff, Nat.reduceSub, Nat.reduceMul, Int.reduceToNat, List.size_toArray, tyF, MM, bu0, ipure, kpure, tpure, sspure, kset, tset, ksnoc, tsnoc, Kind.av, Twist.sl, Twist.tr, Invar.av, w1, f4, f0, f3]
    refine callP_of (inRange _ _ _) ?_
    cases w2 : within (l.getD k default).o 1 20 with
    | false =>
      simp -dsimp -implicitDefEqProofs (disch := first | omega | (simp only [lenr]; done) | (simp only [lenr]; omega)) only [↓amPre, amAll, ↓reduceIte, reduceCtorEq, Nat.reduceEqDiff, Nat.reduceBEq, Nat.reduceAdd, Nat.reduceLeDiff, Nat.reduceSub, Nat.reduceMul, Int.reduceToNat, List.size_toArray, tyF, MM, bu0, ipure, kpure, tpure, sspure, kset, tset, ksnoc, tsnoc, Kind.av, Twist.sl, Twist.tr, Invar.av, w1, w2]
      have : ¬ kindsOk l := fun h => by have := within_iff.2 (h.2.1 _ hmem).2; rw [w2] at this; cases this
      simp [this]
    | true =>
    have hk := kOk_of w1 w2
    have hp := kOk_prod hk
    simp -dsimp -implicitDefEqProofs (disch := first | omega | (simp only [lenr]; done) | (simp only [lenr]; omega)) only [↓amPre, amAll, ↓reduceIte, reduceCtorEq, Nat.reduceEqDiff, Nat.reduceBEq, Nat.reduceAdd, Nat.reduceLeDiff, Nat.reduceSub, Nat.reduceMul, Int.reduceToNat, List.size_toArray, tyF, MM, bu0, ipure, kpure, tpure, sspure, kset, tset, ksnoc, tsnoc, Kind.av, Twist.sl, Twist.tr, Invar.av, w1, w2, f4, f0, f3, ← ft]
    repeat' (first | omega | rfl | exact i64c (by omega) | exact vic (by omega) | exact (mem_take_succ (d := default) hlt).2 ⟨ek, hk⟩ | apply And.intro)
  · have hke : k = l.length := by omega
    subst hke
    simp -dsimp -implicitDefEqProofs (disch := first | omega | (simp only [lenr]; done) | (simp only [lenr]; omega)) only [↓amPre, amAll, ↓reduceIte, reduceCtorEq, Nat.reduceEqDiff, Nat.reduceBEq, Nat.reduceAdd, Nat.reduceLeDiff, Nat.reduceSub, Nat.reduceMul, Int.reduceToNat, List.size_toArray, tyF, MM, bu0, ipure, kpure, tpure, sspure, kset, tset, ksnoc, tsnoc, Kind.av, Twist.sl, Twist.tr, Invar.av, f4, f0, f3, List.take_length]
    rw [List.take_length] at ek
    refine bl_eq ?_
    simp only [decide_eq_true_eq]
    unfold kindsOk
    exact ⟨fun q => ⟨by omega, ek, q⟩, fun q => q.2.2⟩
def stR (l : List Kind) : Int := if kindsOk l then stC l else 0
end Go.AM
set_option maxRecDepth 8000
namespace Go.AM
open Go.Proofs
def fidx (pr : Int → Bool) (l : List Int) : Int := match l.findIdx? pr with | some i => i | none => -1
theorem fidx_nonneg (pr : Int → Bool) (l : List Int) : 0 ≤ fidx pr l ↔ l.any pr = true := by
  unfold fidx
  split
  · rename_i i e
    rw [List.findIdx?_eq_some_iff_getElem] at e
    obtain ⟨hi, h1, _⟩ := e
    simp only [List.any_eq_true]
    exact ⟨fun _ => ⟨_, List.getElem_mem hi, h1⟩, fun _ => by omega⟩
  · rename_i e
    rw [List.findIdx?_eq_none_iff] at e
    simp only [List.any_eq_true]
    exact ⟨fun q => by omega, fun ⟨x, hx, hp⟩ => by rw [e x hx] at hp; cases hp⟩
theorem indexFunc (l : List Int) (g : FuncId) (caps : List AV) (pr : Int → Bool) (hM : MM g = []) (hb : AV.bearsL caps = false) (hv : ∀ mem, AV.views mem caps = caps) (h : ∀ x ∈ l, SpecAt Try.prog g ([.i64 x] ++ caps) (.bl (pr x))) (hl : l.length ≤ 1099511627776) :
    SpecAt Try.prog 218 [isl l, .fn g caps] (.i64 (fidx pr l)) := by
  unfold MM at hM
  refine spec_of_awp (M := MM) (np := 2) (fz := true) mixed Try.func218 rfl rfl (by decide) rfl (Nat.le_refl _) (by decide +kernel) (.inr ⟨rfl, rfl⟩) trivial ?_
  simp -dsimp -implicitDefEqProofs (disch := first | omega | (simp only [lenr]; done) | (simp only [lenr]; omega)) only [↓amPre, amAll, ↓reduceIte, reduceCtorEq, Nat.reduceEqDiff, Nat.reduceBEq, Nat.reduceAdd, Nat.reduceLeDiff, Nat.reduceSub, Nat.reduceMul, Int.reduceToNat, List.size_toArray, tyF, MM, bu0, ipure, kpure, tpure, sspure, kset, tset, ksnoc, tsnoc, Kind.av, Twist.sl, Twist.tr, Invar.av]
  refine awp_loop (fun k st => k ≤ l.length ∧ st.fr 8 = .i64 k ∧ st.fr 7 = .i64 l.length ∧ st.fr 0 = isl l ∧ st.fr 1 = .fn g caps ∧ ∀ x ∈ l.take k, pr x = false) (l.length) ?_ ?_
  · simp -dsimp -implicitDefEqProofs (disch := first | omega | (simp only [lenr]; done) | (simp only [lenr]; omega)) only [↓amPre, amAll, ↓reduceIte, reduceCtorEq, Nat.reduceEqDiff, Nat.reduceBEq, Nat.reduceAdd, Nat.reduceLeDiff, Nat.reduceSub, Nat.reduceMul, Int.reduceToNat, List.size_toArray, tyF, MM, bu0, ipure, kpure, tpure, sspure, kset, tset, ksnoc, tsnoc, Kind.av, Twist.sl, Twist.tr, Invar.av]
    simp
  rintro k st _ ⟨hk, f8, f7, f0, f1, ek⟩
  by_cases hlt : k < l.length
  · have hmem := mem_getD l k 0 hlt
    simp -dsimp -implicitDefEqProofs (disch := first | omega | (simp only [lenr]; done) | (simp only [lenr]; omega)) only [↓amPre, amAll, ↓reduceIte, reduceCtorEq, Nat.reduceEqDiff, Nat.reduceBEq, Nat.reduceAdd, Nat.reduceLeDiff, Nat.reduceSub, Nat.reduceMul, Int.reduceToNat, List.size_toArray, tyF, MM, bu0, ipure, kpure, tpure, sspure, kset, tset, ksnoc, tsnoc, Kind.av, Twist.sl, Twist.tr, Invar.av, f8, f7, f0, f1, hM, hb, hv]
    refine callP_of (h _ hmem) ?_
    cases w : pr (l.getD k 0) with
    | true =>
      simp -dsimp -implicitDefEqProofs (disch := first | omega | (simp only [lenr]; done) | (simp only [lenr]; omega)) only [↓amPre, amAll, ↓reduceIte, reduceCtorEq, Nat.reduceEqDiff, Nat.reduceBEq, Nat.reduceAdd, Nat.reduceLeDiff, Nat.reduceSub, Nat.reduceMul, Int.reduceToNat, List.size_toArray, tyF, MM, bu0, ipure, kpure, tpure, sspure, kset, tset, ksnoc, tsnoc, Kind.av, Twist.sl, Twist.tr, Invar.av, f8, f7, f0, f1, w]
      have : l.findIdx? pr = some k := by
        rw [List.findIdx?_eq_some_iff_getElem]
        refine ⟨hlt, by rw [← getD_eq l k 0 hlt]; exact w, fun j hj => ?_⟩
        have := ek (l[j]) (by rw [List.mem_take_iff_getElem]; exact ⟨j, by omega, rfl⟩)
        simpa using this
      rw [fidx, this]
    | false =>
      simp -dsimp -implicitDefEqProofs (disch := first | omega | (simp only [lenr]; done) | (simp only [lenr]; omega)) only [↓amPre, amAll, ↓reduceIte, reduceCtorEq, Nat.reduceEqDiff, Nat.reduceBEq, Nat.reduceAdd, Nat.reduceLeDiff, Nat.reduceSub, Nat.reduceMul, Int.reduceToNat, List.size_toArray, tyF, MM, bu0, ipure, kpure, tpure, sspure, kset, tset, ksnoc, tsnoc, Kind.av, Twist.sl, Twist.tr, Invar.av, f8, f7, f0, f1, w]
      repeat' (first | omega | rfl | exact i64c (by omega) | exact vic (by omega) | exact (mem_take_succ (d := 0) hlt).2 ⟨ek, w⟩ | apply And.intro)
  · have hke : k = l.length := by omega
    subst hke
    rw [List.take_length] at ek
    simp -dsimp -implicitDefEqProofs (disch := first | omega | (simp only [lenr]; done) | (simp only [lenr]; omega)) only [↓amPre, amAll, ↓reduceIte, reduceCtorEq, Nat.reduceEqDiff, Nat.reduceBEq, Nat.reduceAdd, Nat.reduceLeDiff, Nat.reduceSub, Nat.reduceMul, Int.reduceToNat, List.size_toArray, tyF, MM, bu0, ipure, kpure, tpure, sspure, kset, tset, ksnoc, tsnoc, Kind.av, Twist.sl, Twist.tr, Invar.av, f8, f7, f0, f1]
    have : l.findIdx? pr = none := by rw [List.findIdx?_eq_none_iff]; exact ek
    rw [fidx, this]
theorem containsFunc (l : List Int) (g : FuncId) (caps : List AV) (pr : Int → Bool) (hM : MM g = []) (hb : AV.bearsL caps = false) (hv : ∀ mem, AV.views mem caps = caps) (h : ∀ x ∈ l, SpecAt Try.prog g ([.i64 x] ++ caps) (.bl (pr x))) (hl : l.length ≤ 1099511627776) :
    SpecAt Try.prog 156 [isl l, .fn g caps] (.bl (l.any pr)) := by
  refine spec_of_awp (M := MM) (np := 2) (fz := true) mixed Try.func156 rfl rfl (by decide) rfl (Nat.le_refl _) (by decide +kernel) (.inr ⟨rfl, rfl⟩) trivial ?_
  simp -dsimp -implicitDefEqProofs (disch := first | omega | (simp only [lenr]; done) | (simp only [lenr]; omega)) only [↓amPre, amAll, ↓reduceIte, reduceCtorEq, Nat.reduceEqDiff, Nat.reduceBEq, Nat.reduceAdd, Nat.reduceLeDiff, Nat.reduceSub, Nat.reduceMul, Int.reduceToNat, List.size_toArray, tyF, MM, bu0, ipure, kpure, tpure, sspure, kset, tset, ksnoc, tsnoc, Kind.av, Twist.sl, Twist.tr, Invar.av, hb, hv]
  refine callP_of (indexFunc l g caps pr hM hb hv h hl) ?_
  simp -dsimp -implicitDefEqProofs (disch := first | omega | (simp only [lenr]; done) | (simp only [lenr]; omega)) only [↓amPre, amAll, ↓reduceIte, reduceCtorEq, Nat.reduceEqDiff, Nat.reduceBEq, Nat.reduceAdd, Nat.reduceLeDiff, Nat.reduceSub, Nat.reduceMul, Int.reduceToNat, List.size_toArray, tyF, MM, bu0, ipure, kpure, tpure, sspure, kset, tset, ksnoc, tsnoc, Kind.av, Twist.sl, Twist.tr, Invar.av]
  refine bl_eq ?_
  simp only [decide_eq_true_eq, fidx_nonneg]
theorem isTwist1 (x c o : Int) (ho : 0 ≤ o) (ho1 : o ≤ 20) : SpecAt Try.prog 227 [.i64 x, .ep [.i64 c, .i64 o]] (.bl (!within x 0 (o - 1))) := by
  refine spec_of_awp (M := MM) (np := 2) (fz := true) mixed Try.func227 rfl rfl (by decide) rfl (Nat.le_refl _) (by decide +kernel) (.inr ⟨rfl, rfl⟩) trivial ?_
  simp -dsimp -implicitDefEqProofs (disch := first | omega | (simp only [lenr]; done) | (simp only [lenr]; omega)) only [↓amPre, amAll, ↓reduceIte, reduceCtorEq, Nat.reduceEqDiff, Nat.reduceBEq, Nat.reduceAdd, Nat.reduceLeDiff, Nat.reduceSub, Nat.reduceMul, Int.reduceToNat, List.size_toArray, tyF, MM, bu0, ipure, kpure, tpure, sspure, kset, tset, ksnoc, tsnoc, Kind.av, Twist.sl, Twist.tr, Invar.av]
  refine callP_of (iwithin _ _ _) ?_
  simp -dsimp -implicitDefEqProofs (disch := first | omega | (simp only [lenr]; done) | (simp only [lenr]; omega)) only [↓amPre, amAll, ↓reduceIte, reduceCtorEq, Nat.reduceEqDiff, Nat.reduceBEq, Nat.reduceAdd, Nat.reduceLeDiff, Nat.reduceSub, Nat.reduceMul, Int.reduceToNat, List.size_toArray, tyF, MM, bu0, ipure, kpure, tpure, sspure, kset, tset, ksnoc, tsnoc, Kind.av, Twist.sl, Twist.tr, Invar.av]
theorem isTwist (k : Kind) (t : Twist) (hk : kOk k) (h1 : t.to.length ≤ 1099511627776) (h2 : t.by'.length ≤ 1099511627776) : SpecAt Try.prog 182 [k.av, t.sl] (.bl (decide (twOk k t))) := by
  refine spec_of_awp (M := MM) (np := 2) (fz := true) mixed Try.func182 rfl rfl (by decide) rfl (Nat.le_refl _) (by decide +kernel) (.inr ⟨rfl, rfl⟩) trivial ?_
  simp -dsimp -implicitDefEqProofs (disch := first | omega | (simp only [lenr]; done) | (simp only [lenr]; omega)) only [↓amPre, amAll, ↓reduceIte, reduceCtorEq, Nat.reduceEqDiff, Nat.reduceBEq, Nat.reduceAdd, Nat.reduceLeDiff, Nat.reduceSub, Nat.reduceMul, Int.reduceToNat, List.size_toArray, tyF, MM, bu0, ipure, kpure, tpure, sspure, kset, tset, ksnoc, tsnoc, Kind.av, Twist.sl, Twist.tr, Invar.av]
  refine callP_of (lenI _) ?_
  have fin : ∀ b : Bool, (b = true ↔ twOk k t) → Value.bool b = Value.bool (decide (twOk k t)) := fun b h => bl_eq (by rw [h, decide_eq_true_iff])
  by_cases c1 : (t.to.length : Int) = k.c
  · simp -dsimp -implicitDefEqProofs (disch := first | omega | (simp only [lenr]; done) | (simp only [lenr]; omega)) only [↓amPre, amAll, ↓reduceIte, reduceCtorEq, Nat.reduceEqDiff, Nat.reduceBEq, Nat.reduceAdd, Nat.reduceLeDiff, Nat.reduceSub, Nat.reduceMul, Int.reduceToNat, List.size_toArray, tyF, MM, bu0, ipure, kpure, tpure, sspure, kset, tset, ksnoc, tsnoc, Kind.av, Twist.sl, Twist.tr, Invar.av, eq_true c1]
    refine callP_of (iIsPerm _ h1) ?_
    by_cases c2 : isPerm t.to
    · simp -dsimp -implicitDefEqProofs (disch := first | omega | (simp only [lenr]; done) | (simp only [lenr]; omega)) only [↓amPre, amAll, ↓reduceIte, reduceCtorEq, Nat.reduceEqDiff, Nat.reduceBEq, Nat.reduceAdd, Nat.reduceLeDiff, Nat.reduceSub, Nat.reduceMul, Int.reduceToNat, List.size_toArray, tyF, MM, bu0, ipure, kpure, tpure, sspure, kset, tset, ksnoc, tsnoc, Kind.av, Twist.sl, Twist.tr, Invar.av, eq_true c1, c2]
      refine callP_of (lenI _) ?_
      by_cases c3 : (t.by'.length : Int) = k.c
      · simp -dsimp -implicitDefEqProofs (disch := first | omega | (simp only [lenr]; done) | (simp only [lenr]; omega)) only [↓amPre, amAll, ↓reduceIte, reduceCtorEq, Nat.reduceEqDiff, Nat.reduceBEq, Nat.reduceAdd, Nat.reduceLeDiff, Nat.reduceSub, Nat.reduceMul, Int.reduceToNat, List.size_toArray, tyF, MM, bu0, ipure, kpure, tpure, sspure, kset, tset, ksnoc, tsnoc, Kind.av, Twist.sl, Twist.tr, Invar.av, eq_true c1, c2, eq_true c3]
        refine callP_of (containsFunc t.by' _ _ (fun x => !within x 0 (k.o - 1)) rfl rfl (fun _ => rfl) (fun x _ => isTwist1 x k.c k.o (by have := hk.2; omega) hk.2.2) h2) ?_
        simp -dsimp -implicitDefEqProofs (disch := first | omega | (simp only [lenr]; done) | (simp only [lenr]; omega)) only [↓amPre, amAll, ↓reduceIte, reduceCtorEq, Nat.reduceEqDiff, Nat.reduceBEq, Nat.reduceAdd, Nat.reduceLeDiff, Nat.reduceSub, Nat.reduceMul, Int.reduceToNat, List.size_toArray, tyF, MM, bu0, ipure, kpure, tpure, sspure, kset, tset, ksnoc, tsnoc, Kind.av, Twist.sl, Twist.tr, Invar.av, eq_true c1, c2, eq_true c3]
        refine fin _ ?_
        simp only [Bool.not_eq_true', List.any_eq_false, Bool.not_eq_true, Bool.not_eq_false', Bool.not_eq_false, within_iff, twOk, c1, c2, c3, true_and]
        exact ⟨fun q x hx => by have := q x hx; omega, fun q x hx => by have := q x hx; omega⟩
      · simp -dsimp -implicitDefEqProofs (disch := first | omega | (simp only [lenr]; done) | (simp only [lenr]; omega)) only [↓amPre, amAll, ↓reduceIte, reduceCtorEq, Nat.reduceEqDiff, Nat.reduceBEq, Nat.reduceAdd, Nat.reduceLeDiff, Nat.reduceSub, Nat.reduceMul, Int.reduceToNat, List.size_toArray, tyF, MM, bu0, ipure, kpure, tpure, sspure, kset, tset, ksnoc, tsnoc, Kind.av, Twist.sl, Twist.tr, Invar.av, eq_true c1, c2, eq_false c3]
        refine fin _ ?_
        simp only [twOk, c3, false_and, and_false, reduceCtorEq]
    · simp -dsimp -implicitDefEqProofs (disch := first | omega | (simp only [lenr]; done) | (simp only [lenr]; omega)) only [↓amPre, amAll, ↓reduceIte, reduceCtorEq, Nat.reduceEqDiff, Nat.reduceBEq, Nat.reduceAdd, Nat.reduceLeDiff, Nat.reduceSub, Nat.reduceMul, Int.reduceToNat, List.size_toArray, tyF, MM, bu0, ipure, kpure, tpure, sspure, kset, tset, ksnoc, tsnoc, Kind.av, Twist.sl, Twist.tr, Invar.av, eq_true c1, c2]
      refine fin _ ?_
      simp only [twOk, c2, false_and, and_false, reduceCtorEq]
  · simp -dsimp -implicitDefEqProofs (disch := first | omega | (simp only [lenr]; done) | (simp only [lenr]; omega)) only [↓amPre, amAll, ↓reduceIte, reduceCtorEq, Nat.reduceEqDiff, Nat.reduceBEq, Nat.reduceAdd, Nat.reduceLeDiff, Nat.reduceSub, Nat.reduceMul, Int.reduceToNat, List.size_toArray, tyF, MM, bu0, ipure, kpure, tpure, sspure, kset, tset, ksnoc, tsnoc, Kind.av, Twist.sl, Twist.tr, Invar.av, eq_false c1]
    refine fin _ ?_
    simp only [twOk, c1, false_and, and_false, reduceCtorEq]
theorem sValidTwist (k : Kind) (t : Twist) (hk : kOk k) (h1 : t.to.length ≤ 1099511627776) (h2 : t.by'.length ≤ 1099511627776) : SpecAt Try.prog 175 [k.av, t.sl] (.bl (decide (twOk k t))) := by
  have hk2 := hk.2
  refine spec_of_awp (M := MM) (np := 2) (fz := true) mixed Try.func175 rfl rfl (by decide) rfl (Nat.le_refl _) (by decide +kernel) (.inr ⟨rfl, rfl⟩) trivial ?_
  simp -dsimp -implicitDefEqProofs (disch := first | omega | (simp only [lenr]; done) | (simp only [lenr]; omega)) only [↓amPre, amAll, ↓reduceIte, reduceCtorEq, Nat.reduceEqDiff, Nat.reduceBEq, Nat.reduceAdd, Nat.reduceLeDiff, Nat.reduceSub, Nat.reduceMul, Int.reduceToNat, List.size_toArray, tyF, MM, bu0, ipure, kpure, tpure, sspure, kset, tset, ksnoc, tsnoc, Kind.av, Twist.sl, Twist.tr, Invar.av]
  have fin : ∀ b : Bool, (b = true ↔ twOk k t) → Value.bool b = Value.bool (decide (twOk k t)) := fun b h => bl_eq (by rw [h, decide_eq_true_iff])
  by_cases c1 : (t.to.length : Int) = k.c
  · by_cases c3 : (t.by'.length : Int) = k.c
    · simp -dsimp -implicitDefEqProofs (disch := first | omega | (simp only [lenr]; done) | (simp only [lenr]; omega)) only [↓amPre, amAll, ↓reduceIte, reduceCtorEq, Nat.reduceEqDiff, Nat.reduceBEq, Nat.reduceAdd, Nat.reduceLeDiff, Nat.reduceSub, Nat.reduceMul, Int.reduceToNat, List.size_toArray, tyF, MM, bu0, ipure, kpure, tpure, sspure, kset, tset, ksnoc, tsnoc, Kind.av, Twist.sl, Twist.tr, Invar.av, ne_false c1, ne_false c3]
      refine callP_of (sIsPerm _ h1) ?_
      by_cases c2 : isPerm t.to
      · simp -dsimp -implicitDefEqProofs (disch := first | omega | (simp only [lenr]; done) | (simp only [lenr]; omega)) only [↓amPre, amAll, ↓reduceIte, reduceCtorEq, Nat.reduceEqDiff, Nat.reduceBEq, Nat.reduceAdd, Nat.reduceLeDiff, Nat.reduceSub, Nat.reduceMul, Int.reduceToNat, List.size_toArray, tyF, MM, bu0, ipure, kpure, tpure, sspure, kset, tset, ksnoc, tsnoc, Kind.av, Twist.sl, Twist.tr, Invar.av, c2]
        refine awp_loop (fun j st => j ≤ t.by'.length ∧ st.fr 5 = .i64 j ∧ st.fr 2 = .loc 2 [] 0 0 ∧ st.fr 3 = .loc 3 [] 0 0 ∧ st.mem 2 = some (.pt 2 k.av) ∧ st.mem 3 = some (.pt 2 (.agg [isl t.to, isl t.by'])) ∧ ∀ x ∈ t.by'.take j, 0 ≤ x ∧ x < k.o) (t.by'.length) ?_ ?_
        · simp -dsimp -implicitDefEqProofs (disch := first | omega | (simp only [lenr]; done) | (simp only [lenr]; omega)) only [↓amPre, amAll, ↓reduceIte, reduceCtorEq, Nat.reduceEqDiff, Nat.reduceBEq, Nat.reduceAdd, Nat.reduceLeDiff, Nat.reduceSub, Nat.reduceMul, Int.reduceToNat, List.size_toArray, tyF, MM, bu0, ipure, kpure, tpure, sspure, kset, tset, ksnoc, tsnoc, Kind.av, Twist.sl, Twist.tr, Invar.av]
          simp
        rintro j st _ ⟨hj, f5, f2, f3, m2, m3, ej⟩
        by_cases hlt : j < t.by'.length
        · simp -dsimp -implicitDefEqProofs (disch := first | omega | (simp only [lenr]; done) | (simp only [lenr]; omega)) only [↓amPre, amAll, ↓reduceIte, reduceCtorEq, Nat.reduceEqDiff, Nat.reduceBEq, Nat.reduceAdd, Nat.reduceLeDiff, Nat.reduceSub, Nat.reduceMul, Int.reduceToNat, List.size_toArray, tyF, MM, bu0, ipure, kpure, tpure, sspure, kset, tset, ksnoc, tsnoc, Kind.av, Twist.sl, Twist.tr, Invar.av, f5, f2, f3, m2, m3]
          refine callP_of (inRange _ _ _) ?_
          cases w : within (t.by'.getD j 0) 0 (k.o - 1) with
          | false =>
            simp -dsimp -implicitDefEqProofs (disch := first | omega | (simp only [lenr]; done) | (simp only [lenr]; omega)) only [↓amPre, amAll, ↓reduceIte, reduceCtorEq, Nat.reduceEqDiff, Nat.reduceBEq, Nat.reduceAdd, Nat.reduceLeDiff, Nat.reduceSub, Nat.reduceMul, Int.reduceToNat, List.size_toArray, tyF, MM, bu0, ipure, kpure, tpure, sspure, kset, tset, ksnoc, tsnoc, Kind.av, Twist.sl, Twist.tr, Invar.av, w]
            refine fin _ ?_
            rw [within_not] at w
            simp only [reduceCtorEq, false_iff]
            intro q; have := q.2.2.2 _ (mem_getD _ j 0 hlt); omega
          | true =>
            rw [within_iff] at w
            simp -dsimp -implicitDefEqProofs (disch := first | omega | (simp only [lenr]; done) | (simp only [lenr]; omega)) only [↓amPre, amAll, ↓reduceIte, reduceCtorEq, Nat.reduceEqDiff, Nat.reduceBEq, Nat.reduceAdd, Nat.reduceLeDiff, Nat.reduceSub, Nat.reduceMul, Int.reduceToNat, List.size_toArray, tyF, MM, bu0, ipure, kpure, tpure, sspure, kset, tset, ksnoc, tsnoc, Kind.av, Twist.sl, Twist.tr, Invar.av, f5, f2, f3, m2, m3, within_iff.2 w]
            repeat' (first | omega | rfl | exact i64c (by omega) | exact vic (by omega) | exact (mem_take_succ (d := 0) hlt).2 ⟨ej, by omega⟩ | apply And.intro)
        · have hje : j = t.by'.length := by omega
          subst hje
          rw [List.take_length] at ej
          simp -dsimp -implicitDefEqProofs (disch := first | omega | (simp only [lenr]; done) | (simp only [lenr]; omega)) only [↓amPre, amAll, ↓reduceIte, reduceCtorEq, Nat.reduceEqDiff, Nat.reduceBEq, Nat.reduceAdd, Nat.reduceLeDiff, Nat.reduceSub, Nat.reduceMul, Int.reduceToNat, List.size_toArray, tyF, MM, bu0, ipure, kpure, tpure, sspure, kset, tset, ksnoc, tsnoc, Kind.av, Twist.sl, Twist.tr, Invar.av, f5, f2, f3, m2, m3]
          refine fin _ ?_
          simp only [true_iff]
          exact ⟨c1, c3, c2, ej⟩
      · simp -dsimp -implicitDefEqProofs (disch := first | omega | (simp only [lenr]; done) | (simp only [lenr]; omega)) only [↓amPre, amAll, ↓reduceIte, reduceCtorEq, Nat.reduceEqDiff, Nat.reduceBEq, Nat.reduceAdd, Nat.reduceLeDiff, Nat.reduceSub, Nat.reduceMul, Int.reduceToNat, List.size_toArray, tyF, MM, bu0, ipure, kpure, tpure, sspure, kset, tset, ksnoc, tsnoc, Kind.av, Twist.sl, Twist.tr, Invar.av, c2]
        refine fin _ ?_
        simp only [twOk, c2, false_and, and_false, reduceCtorEq]
    · simp -dsimp -implicitDefEqProofs (disch := first | omega | (simp only [lenr]; done) | (simp only [lenr]; omega)) only [↓amPre, amAll, ↓reduceIte, reduceCtorEq, Nat.reduceEqDiff, Nat.reduceBEq, Nat.reduceAdd, Nat.reduceLeDiff, Nat.reduceSub, Nat.reduceMul, Int.reduceToNat, List.size_toArray, tyF, MM, bu0, ipure, kpure, tpure, sspure, kset, tset, ksnoc, tsnoc, Kind.av, Twist.sl, Twist.tr, Invar.av, ne_false c1, ne_true c3]
      refine fin _ ?_
      simp only [twOk, c3, false_and, and_false, reduceCtorEq]
  · simp -dsimp -implicitDefEqProofs (disch := first | omega | (simp only [lenr]; done) | (simp only [lenr]; omega)) only [↓amPre, amAll, ↓reduceIte, reduceCtorEq, Nat.reduceEqDiff, Nat.reduceBEq, Nat.reduceAdd, Nat.reduceLeDiff, Nat.reduceSub, Nat.reduceMul, Int.reduceToNat, List.size_toArray, tyF, MM, bu0, ipure, kpure, tpure, sspure, kset, tset, ksnoc, tsnoc, Kind.av, Twist.sl, Twist.tr, Invar.av, ne_true c1]
    refine fin _ ?_
    simp only [twOk, c1, false_and, and_false, reduceCtorEq]
theorem iIsPieceState (ks : List Kind) (s : List Twist) (h1 : ks.length ≤ 1099511627776) (h2 : s.length ≤ 1099511627776) (h3 : ∀ t ∈ s, t.to.length ≤ 1099511627776 ∧ t.by'.length ≤ 1099511627776) : SpecAt Try.prog 92 [ksl ks, tsl s] (.bl (decide (psOk ks s))) := by
  refine spec_of_awp (M := MM) (np := 2) (fz := true) mixed Try.func92 rfl rfl (by decide) rfl (Nat.le_refl _) (by decide +kernel) (.inr ⟨rfl, rfl⟩) trivial ?_
  simp -dsimp -implicitDefEqProofs (disch := first | omega | (simp only [lenr]; done) | (simp only [lenr]; omega)) only [↓amPre, amAll, ↓reduceIte, reduceCtorEq, Nat.reduceEqDiff, Nat.reduceBEq, Nat.reduceAdd, Nat.reduceLeDiff, Nat.reduceSub, Nat.reduceMul, Int.reduceToNat, List.size_toArray, tyF, MM, bu0, ipure, kpure, tpure, sspure, kset, tset, ksnoc, tsnoc, Kind.av, Twist.sl, Twist.tr, Invar.av]
  refine callP_of (iAreValidKinds _ h1) ?_
  have fin : ∀ b : Bool, (b = true ↔ psOk ks s) → Value.bool b = Value.bool (decide (psOk ks s)) := fun b h => bl_eq (by rw [h, decide_eq_true_iff])
  by_cases c1 : kindsOk ks
  · by_cases c2 : (s.length : Int) = ks.length
    · have c2' : s.length = ks.length := by omega
      simp -dsimp -implicitDefEqProofs (disch := first | omega | (simp only [lenr]; done) | (simp only [lenr]; omega)) only [↓amPre, amAll, ↓reduceIte, reduceCtorEq, Nat.reduceEqDiff, Nat.reduceBEq, Nat.reduceAdd, Nat.reduceLeDiff, Nat.reduceSub, Nat.reduceMul, Int.reduceToNat, List.size_toArray, tyF, MM, bu0, ipure, kpure, tpure, sspure, kset, tset, ksnoc, tsnoc, Kind.av, Twist.sl, Twist.tr, Invar.av, c1, ne_false c2]
      refine awp_loop (fun k st => k ≤ ks.length ∧ st.fr 19 = .i64 k ∧ st.fr 18 = .i64 ks.length ∧ st.fr 17 = ksl ks ∧ st.fr 1 = tsl s ∧ ∀ i, i < k → twOk (ks.getD i default) (s.getD i default)) (ks.length) ?_ ?_
      · simp -dsimp -implicitDefEqProofs (disch := first | omega | (simp only [lenr]; done) | (simp only [lenr]; omega)) only [↓amPre, amAll, ↓reduceIte, reduceCtorEq, Nat.reduceEqDiff, Nat.reduceBEq, Nat.reduceAdd, Nat.reduceLeDiff, Nat.reduceSub, Nat.reduceMul, Int.reduceToNat, List.size_toArray, tyF, MM, bu0, ipure, kpure, tpure, sspure, kset, tset, ksnoc, tsnoc, Kind.av, Twist.sl, Twist.tr, Invar.av]
        simp
      rintro k st _ ⟨hk, f19, f18, f17, f1, ek⟩
      by_cases hlt : k < ks.length
      · obtain ⟨e1, e2⟩ := h3 _ (mem_getD s k default (by omega))
        simp -dsimp -implicitDefEqProofs (disch := first | omega | (simp only [lenr]; done) | (simp only [lenr]; omega)) only [↓amPre, amAll, ↓reduceIte, reduceCtorEq, Nat.reduceEqDiff, Nat.reduceBEq, Nat.reduceAdd, Nat.reduceLeDiff, Nat.reduceSub, Nat.reduceMul, Int.reduceToNat, List.size_toArray, tyF, MM, bu0, ipure, kpure, tpure, sspure, kset, tset, ksnoc, tsnoc, Kind.av, Twist.sl, Twist.tr, Invar.av, f19, f18, f17, f1]
        refine callP_of (isTwist (ks.getD k default) (s.getD k default) (c1.2.1 _ (mem_getD ks k default hlt)) e1 e2) ?_
        by_cases w : twOk (ks.getD k default) (s.getD k default)
        · simp -dsimp -implicitDefEqProofs (disch := first | omega | (simp only [lenr]; done) | (simp only [lenr]; omega)) only [↓amPre, amAll, ↓reduceIte, reduceCtorEq, Nat.reduceEqDiff, Nat.reduceBEq, Nat.reduceAdd, Nat.reduceLeDiff, Nat.reduceSub, Nat.reduceMul, Int.reduceToNat, List.size_toArray, tyF, MM, bu0, ipure, kpure, tpure, sspure, kset, tset, ksnoc, tsnoc, Kind.av, Twist.sl, Twist.tr, Invar.av, f19, f18, f17, f1, w]
          refine ⟨hlt, hlt, fun i hi => ?_⟩
          by_cases e : i = k
          · subst e; exact w
          · exact ek i (by omega)
        · simp -dsimp -implicitDefEqProofs (disch := first | omega | (simp only [lenr]; done) | (simp only [lenr]; omega)) only [↓amPre, amAll, ↓reduceIte, reduceCtorEq, Nat.reduceEqDiff, Nat.reduceBEq, Nat.reduceAdd, Nat.reduceLeDiff, Nat.reduceSub, Nat.reduceMul, Int.reduceToNat, List.size_toArray, tyF, MM, bu0, ipure, kpure, tpure, sspure, kset, tset, ksnoc, tsnoc, Kind.av, Twist.sl, Twist.tr, Invar.av, f19, f18, f17, f1, w]
          refine fin _ ?_
          simp only [reduceCtorEq, false_iff]
          intro q; exact w (q.2.2 k hlt)
      · have hke : k = ks.length := by omega
        subst hke
        simp -dsimp -implicitDefEqProofs (disch := first | omega | (simp only [lenr]; done) | (simp only [lenr]; omega)) only [↓amPre, amAll, ↓reduceIte, reduceCtorEq, Nat.reduceEqDiff, Nat.reduceBEq, Nat.reduceAdd, Nat.reduceLeDiff, Nat.reduceSub, Nat.reduceMul, Int.reduceToNat, List.size_toArray, tyF, MM, bu0, ipure, kpure, tpure, sspure, kset, tset, ksnoc, tsnoc, Kind.av, Twist.sl, Twist.tr, Invar.av, f19, f18, f17, f1]
        refine fin _ ?_
        simp only [true_iff]
        exact ⟨c1, c2', ek⟩
    · simp -dsimp -implicitDefEqProofs (disch := first | omega | (simp only [lenr]; done) | (simp only [lenr]; omega)) only [↓amPre, amAll, ↓reduceIte, reduceCtorEq, Nat.reduceEqDiff, Nat.reduceBEq, Nat.reduceAdd, Nat.reduceLeDiff, Nat.reduceSub, Nat.reduceMul, Int.reduceToNat, List.size_toArray, tyF, MM, bu0, ipure, kpure, tpure, sspure, kset, tset, ksnoc, tsnoc, Kind.av, Twist.sl, Twist.tr, Invar.av, c1, ne_true c2]
      refine fin _ ?_
      simp only [reduceCtorEq, false_iff]
      intro q; have := q.2.1; omega
  · simp -dsimp -implicitDefEqProofs (disch := first | omega | (simp only [lenr]; done) | (simp only [lenr]; omega)) only [↓amPre, amAll, ↓reduceIte, reduceCtorEq, Nat.reduceEqDiff, Nat.reduceBEq, Nat.reduceAdd, Nat.reduceLeDiff, Nat.reduceSub, Nat.reduceMul, Int.reduceToNat, List.size_toArray, tyF, MM, bu0, ipure, kpure, tpure, sspure, kset, tset, ksnoc, tsnoc, Kind.av, Twist.sl, Twist.tr, Invar.av, c1]
    refine fin _ ?_
    simp only [reduceCtorEq, false_iff]
    exact fun q => c1 q.1
theorem sIsPieceState (ks : List Kind) (s : List Twist) (h1 : ks.length ≤ 1099511627776) (h2 : s.length ≤ 1099511627776) (h3 : ∀ t ∈ s, t.to.length ≤ 1099511627776 ∧ t.by'.length ≤ 1099511627776) : SpecAt Try.prog 86 [ksl ks, tsl s] (.bl (decide (psOk ks s))) := by
  refine spec_of_awp (M := MM) (np := 2) (fz := true) mixed Try.func86 rfl rfl (by decide) rfl (Nat.le_refl _) (by decide +kernel) (.inr ⟨rfl, rfl⟩) trivial ?_
  simp -dsimp -implicitDefEqProofs (disch := first | omega | (simp only [lenr]; done) | (simp only [lenr]; omega)) only [↓amPre, amAll, ↓reduceIte, reduceCtorEq, Nat.reduceEqDiff, Nat.reduceBEq, Nat.reduceAdd, Nat.reduceLeDiff, Nat.reduceSub, Nat.reduceMul, Int.reduceToNat, List.size_toArray, tyF, MM, bu0, ipure, kpure, tpure, sspure, kset, tset, ksnoc, tsnoc, Kind.av, Twist.sl, Twist.tr, Invar.av]
  refine callP_of (sAreValidKinds _ h1) ?_
  have fin : ∀ b : Bool, (b = true ↔ psOk ks s) → Value.bool b = Value.bool (decide (psOk ks s)) := fun b h => bl_eq (by rw [h, decide_eq_true_iff])
  by_cases c1 : kindsOk ks
  · by_cases c2 : (s.length : Int) = ks.length
    · have c2' : s.length = ks.length := by omega
      simp -dsimp -implicitDefEqProofs (disch := first | omega | (simp only [lenr]; done) | (simp only [lenr]; omega)) only [↓amPre, amAll, ↓reduceIte, reduceCtorEq, Nat.reduceEqDiff, Nat.reduceBEq, Nat.reduceAdd, Nat.reduceLeDiff, Nat.reduceSub, Nat.reduceMul, Int.reduceToNat, List.size_toArray, tyF, MM, bu0, ipure, kpure, tpure, sspure, kset, tset, ksnoc, tsnoc, Kind.av, Twist.sl, Twist.tr, Invar.av, c1, ne_false c2]
      refine awp_loop (fun k st => k ≤ ks.length ∧ st.fr 5 = .i64 k ∧ st.fr 0 = ksl ks ∧ st.fr 1 = tsl s ∧ ∀ i, i < k → twOk (ks.getD i default) (s.getD i default)) (ks.length) ?_ ?_
      · simp -dsimp -implicitDefEqProofs (disch := first | omega | (simp only [lenr]; done) | (simp only [lenr]; omega)) only [↓amPre, amAll, ↓reduceIte, reduceCtorEq, Nat.reduceEqDiff, Nat.reduceBEq, Nat.reduceAdd, Nat.reduceLeDiff, Nat.reduceSub, Nat.reduceMul, Int.reduceToNat, List.size_toArray, tyF, MM, bu0, ipure, kpure, tpure, sspure, kset, tset, ksnoc, tsnoc, Kind.av, Twist.sl, Twist.tr, Invar.av]
        simp
      rintro k st _ ⟨hk, f5, f0, f1, ek⟩
      by_cases hlt : k < ks.length
      · obtain ⟨e1, e2⟩ := h3 _ (mem_getD s k default (by omega))
        simp -dsimp -implicitDefEqProofs (disch := first | omega | (simp only [lenr]; done) | (simp only [lenr]; omega)) only [↓amPre, amAll, ↓reduceIte, reduceCtorEq, Nat.reduceEqDiff, Nat.reduceBEq, Nat.reduceAdd, Nat.reduceLeDiff, Nat.reduceSub, Nat.reduceMul, Int.reduceToNat, List.size_toArray, tyF, MM, bu0, ipure, kpure, tpure, sspure, kset, tset, ksnoc, tsnoc, Kind.av, Twist.sl, Twist.tr, Invar.av, f5, f0, f1]
        refine callP_of (sValidTwist (ks.getD k default) (s.getD k default) (c1.2.1 _ (mem_getD ks k default hlt)) e1 e2) ?_
        by_cases w : twOk (ks.getD k default) (s.getD k default)
        · simp -dsimp -implicitDefEqProofs (disch := first | omega | (simp only [lenr]; done) | (simp only [lenr]; omega)) only [↓amPre, amAll, ↓reduceIte, reduceCtorEq, Nat.reduceEqDiff, Nat.reduceBEq, Nat.reduceAdd, Nat.reduceLeDiff, Nat.reduceSub, Nat.reduceMul, Int.reduceToNat, List.size_toArray, tyF, MM, bu0, ipure, kpure, tpure, sspure, kset, tset, ksnoc, tsnoc, Kind.av, Twist.sl, Twist.tr, Invar.av, f5, f0, f1, w]
          refine ⟨hlt, hlt, fun i hi => ?_⟩
          by_cases e : i = k
          · subst e; exact w
          · exact ek i (by omega)
        · simp -dsimp -implicitDefEqProofs (disch := first | omega | (simp only [lenr]; done) | (simp only [lenr]; omega)) only [↓amPre, amAll, ↓reduceIte, reduceCtorEq, Nat.reduceEqDiff, Nat.reduceBEq, Nat.reduceAdd, Nat.reduceLeDiff, Nat.reduceSub, Nat.reduceMul, Int.reduceToNat, List.size_toArray, tyF, MM, bu0, ipure, kpure, tpure, sspure, kset, tset, ksnoc, tsnoc, Kind.av, Twist.sl, Twist.tr, Invar.av, f5, f0, f1, w]
          refine fin _ ?_
          simp only [reduceCtorEq, false_iff]
          intro q; exact w (q.2.2 k hlt)
      · have hke : k = ks.length := by omega
        subst hke
        simp -dsimp -implicitDefEqProofs (disch := first | omega | (simp only [lenr]; done) | (simp only [lenr]; omega)) only [↓amPre, amAll, ↓reduceIte, reduceCtorEq, Nat.reduceEqDiff, Nat.reduceBEq, Nat.reduceAdd, Nat.reduceLeDiff, Nat.reduceSub, Nat.reduceMul, Int.reduceToNat, List.size_toArray, tyF, MM, bu0, ipure, kpure, tpure, sspure, kset, tset, ksnoc, tsnoc, Kind.av, Twist.sl, Twist.tr, Invar.av, f5, f0, f1]
        refine fin _ ?_
        simp only [true_iff]
        exact ⟨c1, c2', ek⟩
    · simp -dsimp -implicitDefEqProofs (disch := first | omega | (simp only [lenr]; done) | (simp only [lenr]; omega)) only [↓amPre, amAll, ↓reduceIte, reduceCtorEq, Nat.reduceEqDiff, Nat.reduceBEq, Nat.reduceAdd, Nat.reduceLeDiff, Nat.reduceSub, Nat.reduceMul, Int.reduceToNat, List.size_toArray, tyF, MM, bu0, ipure, kpure, tpure, sspure, kset, tset, ksnoc, tsnoc, Kind.av, Twist.sl, Twist.tr, Invar.av, c1, ne_true c2]
      refine fin _ ?_
      simp only [reduceCtorEq, false_iff]
      intro q; have := q.2.1; omega
  · simp -dsimp -implicitDefEqProofs (disch := first | omega | (simp only [lenr]; done) | (simp only [lenr]; omega)) only [↓amPre, amAll, ↓reduceIte, reduceCtorEq, Nat.reduceEqDiff, Nat.reduceBEq, Nat.reduceAdd, Nat.reduceLeDiff, Nat.reduceSub, Nat.reduceMul, Int.reduceToNat, List.size_toArray, tyF, MM, bu0, ipure, kpure, tpure, sspure, kset, tset, ksnoc, tsnoc, Kind.av, Twist.sl, Twist.tr, Invar.av, c1]
    refine fin _ ?_
    simp only [reduceCtorEq, false_iff]
    exact fun q => c1 q.1
end Go.AM
namespace Go.AM
/-! texts -/
theorem stsize (l : List UInt8) : ByteArray.size ⟨l.toArray⟩ = l.length := rfl
theorem stget (l : List UInt8) (i : Nat) (d : UInt8) : (ByteArray.mk l.toArray).data.toList.getD i d = l.getD i d := rfl
theorem sttl (l : List UInt8) : (ByteArray.mk l.toArray).toList = l := by simp
theorem stapp (a b : List UInt8) : (ByteArray.mk a.toArray) ++ (ByteArray.mk b.toArray) = ⟨(a ++ b).toArray⟩ := by
  apply ByteArray.ext; simp
theorem stext (l : List UInt8) (i j : Nat) : (ByteArray.mk l.toArray).extract i j = ⟨((l.take j).drop i).toArray⟩ := by
  apply ByteArray.ext; simp [List.drop_take]
theorem u8lt (b : UInt8) : b.toNat < 256 := UInt8.toNat_lt b
theorem u8eq {a b : UInt8} : ((a.toNat : Int) == (b.toNat : Int)) = decide (a = b) := by
  rw [Bool.eq_iff_iff, beq_iff_eq, decide_eq_true_iff]
  exact ⟨fun h => UInt8.toNat_inj.1 (by omega), fun h => by rw [h]⟩
def lettersOk (l : List UInt8) : Prop := (∀ b ∈ l, 65 ≤ b.toNat ∧ b.toNat ≤ 90) ∧ l.Nodup
instance (l : List UInt8) : Decidable (lettersOk l) := by unfold lettersOk; infer_instance
def namesOk (l : List UInt8) : Prop := lettersOk l ∧ 1 ≤ l.length ∧ l.length ≤ 8
instance (l : List UInt8) : Decidable (namesOk l) := by unfold namesOk; infer_instance
structure Model where
  ks : List Kind
  nm : List UInt8
  mv : List (List Twist)
  deriving DecidableEq
abbrev tssl (l : List (List Twist)) : AV := .sl 1 (l.map tsl)
abbrev tsst (l : List (List Twist)) : AV := .tr 1 (l.map ttr)
theorem tsspure (l : List (List Twist)) : AV.pureL (l.map ttr) = true := pureL_map _ (fun t => by simp [AV.pure, tpure]) l
theorem tssfz (l : List (List Twist)) : (l.map ttr).map AV.fz = l.map tsl := by
  rw [List.map_map]; exact List.map_congr_left fun a _ => by show (ttr a).fz = tsl a; rw [AV.fz, fzL_map, tfz]
def Model.sl (m : Model) : AV := .agg [ksl m.ks, .st m.nm, tssl m.mv]
def Model.tr (m : Model) : AV := .agg [ktr m.ks, .st m.nm, tsst m.mv]
def modelOk (m : Model) : Prop := kindsOk m.ks ∧ namesOk m.nm ∧ m.nm.length = m.mv.length ∧ ∀ s ∈ m.mv, psOk m.ks s
instance (m : Model) : Decidable (modelOk m) := by unfold modelOk; infer_instance
/-! what is done with piece states, plainly -/
theorem runI_succ (k : Int) (n : Nat) : runI k (n + 1) = runI k n ++ [k + n] := by simp [runI, List.range_succ]
def solvedK (k : Kind) : Twist := ⟨runI 0 k.c.toNat, List.replicate k.c.toNat 0⟩
def solvedR (ks : List Kind) : List Twist := if kindsOk ks then ks.map solvedK else []
theorem map_take_succ {α β : Type} (f : α → β) (l : List α) (i : Nat) (d : α) (h : i < l.length) : (l.take (i + 1)).map f = (l.take i).map f ++ [f (l.getD i d)] := by
  rw [take_succ_eq l i d h, List.map_append]; rfl
def compI (p q : List Int) : List Int := p.map fun x => q.getD x.toNat 0
def scat {α : Type} (base : List α) (p : List Int) (v : Nat → α) : Nat → List α
  | 0 => base
  | i + 1 => (scat base p v i).set (p.getD i 0).toNat (v i)
theorem scat_len {α : Type} (base : List α) (p : List Int) (v : Nat → α) : ∀ i, (scat base p v i).length = base.length
  | 0 => rfl
  | i + 1 => by rw [scat, List.length_set, scat_len base p v i]
theorem perm_inj {p : List Int} (h : isPerm p) {i j : Nat} (hi : i < p.length) (hj : j < p.length) (e : p.getD i 0 = p.getD j 0) : i = j := by
  rw [getD_eq _ _ _ hi, getD_eq _ _ _ hj] at e
  exact (List.getElem_inj h.2.2).1 e
theorem perm_get {p : List Int} (h : isPerm p) {i : Nat} (hi : i < p.length) : 0 ≤ p.getD i 0 ∧ p.getD i 0 < p.length := h.2.1 _ (mem_getD p i 0 hi)
theorem scat_get {α : Type} (base : List α) (p : List Int) (v : Nat → α) (d : α) (h : isPerm p) (hb : base.length = p.length) : ∀ m, m ≤ p.length → ∀ i, i < m → (scat base p v m).getD (p.getD i 0).toNat d = v i
  | m + 1, hm, i, hi => by
    have hg := perm_get h (show m < p.length by omega)
    have hl := scat_len base p v m
    rw [scat]
    by_cases e : i = m
    · subst e; rw [getD_set_same _ _ _ _ (by omega)]
    · rw [getD_set_ne _ _ _ _ _ (fun q => e (perm_inj h (by omega) (by omega) (by have := perm_get h (show i < p.length by omega); omega))), scat_get base p v d h hb m (by omega) i (by omega)]
theorem perm_surj {p : List Int} (h : isPerm p) (j : Nat) (hj : j < p.length) : ∃ i, i < p.length ∧ (p.getD i 0).toNat = j := by
  have hlt : ∀ x ∈ p.map Int.toNat, x < p.length := by
    intro x hx
    obtain ⟨y, hy, rfl⟩ := List.mem_map.1 hx
    have := h.2.1 y hy; omega
  have hn : (p.map Int.toNat).Nodup := by
    rw [List.Nodup, List.pairwise_map]
    refine List.Pairwise.imp_of_mem ?_ h.2.2
    intro a b ha hb hab e
    have := h.2.1 a ha; have := h.2.1 b hb; exact hab (by omega)
  have := (nodup_iff_all _ _ (by simp) hlt).1 hn j hj
  obtain ⟨y, hy, e⟩ := List.mem_map.1 this
  obtain ⟨i, hi, rfl⟩ := List.getElem_of_mem hy
  exact ⟨i, hi, by rw [getD_eq _ _ _ hi]; exact e⟩
theorem ext_getD {α : Type} {a b : List α} (d : α) (hl : a.length = b.length) (h : ∀ i, i < a.length → a.getD i d = b.getD i d) : a = b := by
  apply List.ext_getElem hl
  intro i h1 h2
  have := h i h1
  rwa [getD_eq _ _ _ h1, getD_eq _ _ _ h2] at this
def invI (p : List Int) : List Int := scat (List.replicate p.length 0) p (fun i => (i : Int)) p.length
def compB (o : Int) (a b : Twist) (i : Nat) : Int := (a.by'.getD i 0 + b.by'.getD (a.to.getD i 0).toNat 0).tmod o
def compT (o : Int) (a b : Twist) : Twist := ⟨compI a.to b.to, (List.range a.to.length).map (compB o a b)⟩
def compS (ks : List Kind) (a b : List Twist) : List Twist := (List.range ks.length).map fun n => compT (ks.getD n default).o (a.getD n default) (b.getD n default)
def invB (o : Int) (a : Twist) (i : Nat) : Int := (o - a.by'.getD i 0).tmod o
def invT (o : Int) (a : Twist) : Twist := ⟨invI a.to, scat (List.replicate a.to.length 0) a.to (invB o a) a.to.length⟩
def invS (ks : List Kind) (a : List Twist) : List Twist := (List.range ks.length).map fun n => invT (ks.getD n default).o (a.getD n default)
def cellL (base o to by' : Int) (j : Nat) : List Int := (List.range j).map fun (i : Nat) => base + to * o + ((i : Int) + by').tmod o
theorem cellL_succ (base o to by' : Int) (j : Nat) : cellL base o to by' (j + 1) = cellL base o to by' j ++ [base + to * o + ((j : Int) + by').tmod o] := by simp [cellL, List.range_succ]
theorem cellL_len (base o to by' : Int) (j : Nat) : (cellL base o to by' j).length = j := by simp [cellL]
def rowL (base o : Int) (t : Twist) : Nat → List Int
  | 0 => []
  | i + 1 => rowL base o t i ++ cellL base o (t.to.getD i 0) (t.by'.getD i 0) o.toNat
theorem rowL_len (base o : Int) (t : Twist) : ∀ i, (rowL base o t i).length = i * o.toNat
  | 0 => by simp [rowL]
  | i + 1 => by rw [rowL, List.length_append, rowL_len base o t i, cellL_len, Nat.succ_mul]
def permL (ks : List Kind) (s : List Twist) : Nat → List Int
  | 0 => []
  | n + 1 => permL ks s n ++ rowL (permL ks s n).length (ks.getD n default).o (s.getD n default) (ks.getD n default).c.toNat
theorem permL_len (ks : List Kind) (s : List Twist) (h : ∀ k ∈ ks, kOk k) : ∀ n, n ≤ ks.length → ((permL ks s n).length : Int) = facets (ks.take n)
  | 0, _ => by simp [permL, facets]
  | n + 1, hn => by
    have hk := h _ (mem_getD ks n default (by omega))
    rw [permL, List.length_append, rowL_len, facets_take ks n (by omega), Int.natCast_add, permL_len ks s h n (by omega), Int.natCast_mul, Int.toNat_of_nonneg (by have := hk.1; omega), Int.toNat_of_nonneg (by have := hk.2; omega)]
def permOf (ks : List Kind) (s : List Twist) : List Int := permL ks s ks.length
theorem range_succ_map {α : Type} (f : Nat → α) (n : Nat) : (List.range (n + 1)).map f = (List.range n).map f ++ [f n] := by simp [List.range_succ]
theorem range_map_len {α : Type} (f : Nat → α) (n : Nat) : ((List.range n).map f).length = n := by simp
theorem range_map_get {α : Type} (f : Nat → α) (n i : Nat) (d : α) (h : i < n) : ((List.range n).map f).getD i d = f i := by simp [List.getD, h]
theorem tw_get {ks : List Kind} {s : List Twist} (h : psOk ks s) {n : Nat} (hn : n < ks.length) : twOk (ks.getD n default) (s.getD n default) := h.2.2 n hn
theorem twOk_facts {k : Kind} {t : Twist} (h : twOk k t) (hk : kOk k) : ∃ c o : Nat, k.c = c ∧ k.o = o ∧ t.to.length = c ∧ t.by'.length = c ∧ 1 ≤ c ∧ c ≤ 20 ∧ 1 ≤ o ∧ o ≤ 20 := by
  obtain ⟨h1, h2, h3, h4⟩ := h
  obtain ⟨h5, h6⟩ := hk
  exact ⟨t.to.length, k.o.toNat, h1.symm, by omega, rfl, by omega, by omega, by omega, by omega, by omega⟩
theorem to_get {k : Kind} {t : Twist} (h : twOk k t) {i : Nat} (hi : i < t.to.length) : 0 ≤ t.to.getD i 0 ∧ t.to.getD i 0 < t.to.length := h.2.2.1.2.1 _ (mem_getD t.to i 0 hi)
theorem by_get {k : Kind} {t : Twist} (h : twOk k t) {i : Nat} (hi : i < t.by'.length) : 0 ≤ t.by'.getD i 0 ∧ t.by'.getD i 0 < k.o := h.2.2.2 _ (mem_getD t.by' i 0 hi)
theorem compI_len (p q : List Int) : (compI p q).length = p.length := by simp [compI]
theorem compI_get (p q : List Int) (i : Nat) (h : i < p.length) : (compI p q).getD i 0 = q.getD (p.getD i 0).toNat 0 := by simp [compI, List.getD, h]
theorem compS_len (ks : List Kind) (a b : List Twist) : (compS ks a b).length = ks.length := by simp [compS]
theorem invI_len (p : List Int) : (invI p).length = p.length := by rw [invI, scat_len]; simp
end Go.AM
namespace Go.AM
theorem getD_eq' {α : Type} (l : List α) (i : Nat) (d : α) (h : i < l.length) : l.getD i d = l[i] := by simp [List.getD, h]
theorem any_at' : ∀ p : Path, AV.any.at p = .any
  | [] => rfl
  | ij :: p => by
    have : AV.any.cellAt ij.1 ij.2 = .any := by simp [AV.cellAt]
    rw [AV.at, this, any_at' p]
theorem trn_at (z : Nat) : ∀ p : Path, p ≠ [] → (AV.tr z []).at p = .any
  | [], h => (h rfl).elim
  | ij :: p, _ => by
    have : (AV.tr z []).cellAt ij.1 ij.2 = .any := by
      simp only [AV.cellAt, List.getD_nil, AV.cells]
      cases ij.2 <;> simp
    rw [AV.at, this, any_at' p]
def St.nilAs (st : St) (d s z : Nat) : St := ((st.kill s).setMem s (.tr z [])).put (some d) (.ref s [] z 0 0)
theorem ent_nil (st : St) (d s z : Nat) (h : st.fr d = .nilsl) (hs : 6 ≤ s) : Ent st (st.nilAs d s z) := by
  rintro N E a w h6 ⟨I, ρ, c⟩
  have c1 := c.kill (ρ' := fun s' => if s' = s then (fun _ => none) else ρ s') s (fun s' hne => by simp [hne])
  have hself : (fun s' => if s' = s then (fun _ => none) else ρ s') s = (fun _ => none : Path → Option Plc) := by simp
  have hno : ∀ s' T p k, (((st.kill s).setMem s (.tr z [])).mem s' = some T) → (T.at p).isNode = true → (if s' = s then (fun _ => none) else ρ s') p = some k → s' ≠ s ∧ (st.kill s).mem s' = some T := by
    intro s' T p k hm _ hk
    by_cases e : s' = s
    · subst e; simp at hk
    · simp only [St.setMem, e, if_false] at hm; exact ⟨e, hm⟩
  have hget : ∀ s' T, (((st.kill s).setMem s (.tr z [])).mem s' = some T) → (s' = s ∧ T = .tr z []) ∨ (s' ≠ s ∧ (st.kill s).mem s' = some T) := by
    intro s' T hm
    by_cases e : s' = s
    · subst e; simp only [St.setMem, if_true] at hm; cases hm; exact .inl ⟨rfl, rfl⟩
    · simp only [St.setMem, e, if_false] at hm; exact .inr ⟨e, hm⟩
  refine ⟨I, (fun s' => if s' = s then (fun _ => none) else ρ s'), ⟨c1.held, c1.below, c1.keeps, c1.size, c1.defers, fun i => ?_, ⟨fun s' T p hm => ?_, fun s' T p k hm hn hk => ?_, fun s' T p k s'' T' p' k' h1 h2 h3 h4 h5 h7 hb => ?_⟩, fun b hb => ?_, fun i c' T q h1 h2 h3 => ?_⟩⟩
  · by_cases e : i = d
    · subst e
      have hr := c.fr i
      rw [h] at hr
      show Rep I _ ((St.nilAs st i s z).fr i) _
      simp only [St.nilAs, St.put, if_true]
      generalize a.tmps.getD i undef = y at hr
      cases hr with
      | stat q => cases q; exact .ref0 s [] z 0 none
    · show Rep I _ ((St.nilAs st d s z).fr i) _
      simp only [St.nilAs, St.put, e, if_false]
      exact c1.fr i
  · rcases hget s' T hm with ⟨rfl, rfl⟩ | ⟨e, hm'⟩
    · simp only [if_true]
      by_cases hp : p = []
      · subst hp; exact .inl ⟨rfl, rfl⟩
      · rw [trn_at z p hp]; trivial
    · exact c1.mem.row s' T p hm'
  · exact c1.mem.free s' T p k (hno s' T p k hm hn hk).2 hn hk
  · exact c1.mem.inj s' T p k s'' T' p' k' (hno s' T p k h1 h2 h3).2 h2 h3 (hno s'' T' p' k' h4 h5 h7).2 h5 h7 hb
  · obtain ⟨s', T, p, k, h1, h2, h3, h4⟩ := hb
    exact c1.lo b ⟨s', T, p, k, (hno s' T p k h1 h2 h3).2, h2, h3, h4⟩
  · rcases hget i T h2 with ⟨rfl, rfl⟩ | ⟨e, hm'⟩
    · have : i < E.args.length := (List.getElem?_eq_some_iff.1 h1).1
      omega
    · exact c1.fix i c' T q h1 hm' h3
theorem awp_loopN {P : Program} {M : FuncId → List Bool} {c : Code} {Q : Exit → St → Prop} {st : St} {l : Lock c} {m : Lock Q} (d s z : Nat) (hd : st.fr d = .nilsl) (hs : 6 ≤ s) (J : Nat → St → Prop) (N : Nat) (h0 : J 0 (st.nilAs d s z))
    (h : ∀ k st1, k ≤ N → J k st1 → AWP P M c (thenQ (fun st' => k < N ∧ J (k + 1) st') Q) st1) : LoopP P M c Q st l m :=
  awp_loopE (st.nilAs d s z) (ent_nil st d s z hd hs) J N h0 h
/-! an owned tree gets another number -/
def St.ren (st : St) (s s' : Nat) (T : AV) : St := ((st.mapF (moveF s [] s' [])).del s).setMem s' T
theorem ren_eq (st : St) (s s' : Nat) (T : AV) : st.ren s s' T = ((st.mapF (moveF s [] s' [])).del s).setMem s' T := rfl
theorem ent_ren (st : St) (s s' : Nat) (T : AV) (hT : st.mem s = some T) (hs : 6 ≤ s) (hs' : 6 ≤ s') (hne : s ≠ s') : Ent st (st.ren s s' T) := by
  rintro N E a w h6 ⟨I, ρ, c⟩
  have hget : ∀ x X, (st.ren s s' T).mem x = some X → ∃ y, st.mem y = some X ∧ (if x = s' then ρ s else ρ x) = ρ y ∧ (x = s' ∧ y = s ∨ x ≠ s' ∧ x ≠ s ∧ y = x) := by
    intro x X hx
    simp only [St.ren, St.setMem, St.del, St.mapF] at hx
    by_cases e : x = s'
    · rw [if_pos e] at hx; cases hx; exact ⟨s, hT, by simp [e], .inl ⟨e, rfl⟩⟩
    · rw [if_neg e] at hx
      by_cases e2 : x = s
      · rw [if_pos e2] at hx; cases hx
      · rw [if_neg e2] at hx; exact ⟨x, hx, by simp [e], .inr ⟨e, e2, rfl⟩⟩
  refine ⟨I, (fun x => if x = s' then ρ s else ρ x), ?_⟩
  have hsep : Sep I (fun x => if x = s' then ρ s else ρ x) w (st.ren s s' T).mem := by
    refine ⟨fun x X p hx => ?_, fun x X p k hx hn hk => ?_, fun x X p k x' X' p' k' h1 h2 h3 h4 h5 h7 hb => ?_⟩
    · obtain ⟨y, h1, h2, _⟩ := hget x X hx
      show NodeOk I ((fun x => if x = s' then ρ s else ρ x) x) w p (X.at p)
      simp only [h2]; exact c.mem.row y X p h1
    · obtain ⟨y, h1, h2, _⟩ := hget x X hx
      simp only [h2] at hk; exact c.mem.free y X p k h1 hn hk
    · obtain ⟨y, k1, k2, k3⟩ := hget x X h1
      obtain ⟨y', j1, j2, j3⟩ := hget x' X' h4
      simp only [k2] at h3; simp only [j2] at h7
      obtain ⟨q1, q2⟩ := c.mem.inj y X p k y' X' p' k' k1 h2 h3 j1 h5 h7 hb
      refine ⟨?_, q2⟩
      rcases k3 with ⟨a1, a2⟩ | ⟨a1, a2, a3⟩ <;> rcases j3 with ⟨b1, b2⟩ | ⟨b1, b2, b3⟩ <;> omega
  refine c.remap (ρ' := fun x => if x = s' then ρ s else ρ x) (mem' := (st.ren s s' T).mem) (moveF s [] s' []) (fun x p x' p' hf => ?_) c.held (fun _ _ _ h => h) c.below c.keeps hsep (fun b hb => ?_) (fun i c' X q h1 hX h3 => ?_)
  · unfold moveF at hf
    by_cases e : x = s
    · rw [if_pos e] at hf
      have : isPref [] p = true := by cases p <;> rfl
      rw [this] at hf
      simp only [List.length_nil, List.drop_zero, List.nil_append, Option.some.injEq, Prod.mk.injEq] at hf
      obtain ⟨rfl, rfl⟩ := hf
      simp [e]
    · rw [if_neg e] at hf
      unfold fromF at hf
      by_cases e2 : x = s'
      · rw [if_pos e2] at hf
        have : isPref [] p = true := by cases p <;> rfl
        rw [this] at hf; cases hf
      · rw [if_neg e2] at hf; cases hf; simp [e2]
  · obtain ⟨x, X, p, k, h1, h2, h3, h4⟩ := hb
    obtain ⟨y, k1, k2, _⟩ := hget x X h1
    simp only [k2] at h3
    exact c.lo b ⟨y, X, p, k, k1, h2, h3, h4⟩
  · obtain ⟨y, k1, k2, k3⟩ := hget i X hX
    have hi : i < E.args.length := (List.getElem?_eq_some_iff.1 h1).1
    rcases k3 with ⟨a1, _⟩ | ⟨a1, a2, a3⟩
    · omega
    · subst a3; simp only [a1, if_false]; exact c.fix y c' X q h1 k1 h3
theorem awp_loopR {P : Program} {M : FuncId → List Bool} {c : Code} {Q : Exit → St → Prop} {st : St} {l : Lock c} {m : Lock Q} (s s' : Nat) (T : AV) (hT : st.mem s = some T) (hs : 6 ≤ s) (hs' : 6 ≤ s') (hne : s ≠ s') (J : Nat → St → Prop) (N : Nat) (h0 : J 0 (st.ren s s' T))
    (h : ∀ k st1, k ≤ N → J k st1 → AWP P M c (thenQ (fun st' => k < N ∧ J (k + 1) st') Q) st1) : LoopP P M c Q st l m :=
  awp_loopE (st.ren s s' T) (ent_ren st s s' T hT hs hs' hne) J N h0 h
def St.nilC (st : St) (s j z w : Nat) (cs : List AV) : St := (st.mapF (fromF s [(0, j)])).setMem s (.pt z (.agg (cs.set j (.tr w []))))
theorem nilC_eq (st : St) (s j z w : Nat) (cs : List AV) : st.nilC s j z w cs = (st.mapF (fromF s [(0, j)])).setMem s (.pt z (.agg (cs.set j (.tr w [])))) := rfl
theorem pref1 (j : Nat) (p : Path) : isPref [(0, j)] p = true ↔ ∃ q, p = (0, j) :: q := by
  cases p with
  | nil => simp [isPref]
  | cons a q =>
    simp only [isPref, Bool.and_true, decide_eq_true_eq]
    constructor
    · rintro ⟨h1, h2⟩; exact ⟨q, by rw [h1, h2]⟩
    · rintro ⟨q', h⟩; cases h; simp
theorem ent_nilC (st : St) (s j z w : Nat) (cs : List AV) (hm : st.mem s = some (.pt z (.agg cs))) (hj : j < cs.length) (hc : cs.getD j .any = .nilsl) : Ent st (st.nilC s j z w cs) := by
  rintro N E a wd h6 ⟨I, ρ, c⟩
  have hcj : cs[j] = .nilsl := by rw [← getD_eq' cs j .any hj]; exact hc
  let ρ' : Pl := fun x p => if x = s ∧ isPref [(0, j)] p = true then none else ρ x p
  have hρ : ∀ x p, ¬ (x = s ∧ isPref [(0, j)] p = true) → ρ' x p = ρ x p := fun x p h => if_neg h
  have hρ0 : ∀ q, ρ' s ((0, j) :: q) = none := fun q => if_pos ⟨rfl, (pref1 j _).2 ⟨q, rfl⟩⟩
  have hcell : ∀ i' j', ¬ (i' = 0 ∧ j' = j) → (AV.pt z (.agg (cs.set j (.tr w [])))).cellAt i' j' = (AV.pt z (.agg cs)).cellAt i' j' := by
    intro i' j' hne
    cases i' with
    | zero =>
      show (cs.set j (.tr w [])).getD j' .any = cs.getD j' .any
      simp only [List.getD]
      rw [List.getElem?_set_ne (by rintro rfl; exact hne ⟨rfl, rfl⟩)]
    | succ i' => rfl
  have hcell0 : (AV.pt z (.agg (cs.set j (.tr w [])))).cellAt 0 j = .tr w [] := by
    show (cs.set j (.tr w [])).getD j .any = _
    simp [List.getD, hj]
  have hat : ∀ p, (¬ ∃ q, p = (0, j) :: q) → p ≠ [] → (AV.pt z (.agg (cs.set j (.tr w [])))).at p = (AV.pt z (.agg cs)).at p := by
    intro p hp hn
    cases p with
    | nil => exact (hn rfl).elim
    | cons ij q =>
      rw [AV.at, AV.at, hcell ij.1 ij.2]
      rintro ⟨e1, e2⟩; exact hp ⟨q, by rw [← e1, ← e2]⟩
  have hat0 : ∀ q, (AV.pt z (.agg (cs.set j (.tr w [])))).at ((0, j) :: q) = (AV.tr w []).at q := by
    intro q; rw [AV.at]; show ((AV.pt z (.agg (cs.set j (.tr w [])))).cellAt 0 j).at q = _; rw [hcell0]
  have hmem : ∀ x X, (st.nilC s j z w cs).mem x = some X → (x = s ∧ X = .pt z (.agg (cs.set j (.tr w [])))) ∨ (x ≠ s ∧ st.mem x = some X) := by
    intro x X hx
    simp only [St.nilC, St.setMem, St.mapF] at hx
    by_cases e : x = s
    · rw [if_pos e] at hx; cases hx; exact .inl ⟨e, rfl⟩
    · rw [if_neg e] at hx; exact .inr ⟨e, hx⟩
  -- a node of the new memory that has a place is a node of the old one
  have hold : ∀ x X p k, (st.nilC s j z w cs).mem x = some X → (X.at p).isNode = true → ρ' x p = some k → ∃ Y, st.mem x = some Y ∧ (Y.at p).isNode = true ∧ ρ x p = some k := by
    intro x X p k hx hn hk
    rcases hmem x X hx with ⟨rfl, rfl⟩ | ⟨e, hx'⟩
    · by_cases hp : ∃ q, p = (0, j) :: q
      · obtain ⟨q, rfl⟩ := hp; rw [hρ0] at hk; cases hk
      · have hk' := hk
        rw [hρ x p (fun h => hp ((pref1 j p).1 h.2))] at hk'
        by_cases hp0 : p = []
        · subst hp0; exact ⟨_, hm, rfl, hk'⟩
        · rw [hat p hp hp0] at hn; exact ⟨_, hm, hn, hk'⟩
    · rw [hρ x p (fun h => e h.1)] at hk; exact ⟨X, hx', hn, hk⟩
  have hsep : Sep I ρ' wd (st.nilC s j z w cs).mem := by
    refine ⟨fun x X p hx => ?_, fun x X p k hx hn hk => ?_, fun x X p k x' X' p' k' h1 h2 h3 h4 h5 h7 hb => ?_⟩
    · rcases hmem x X hx with ⟨rfl, rfl⟩ | ⟨e, hx'⟩
      · by_cases hp : ∃ q, p = (0, j) :: q
        · obtain ⟨q, rfl⟩ := hp
          rw [hat0 q]
          cases q with
          | nil => exact .inl ⟨hρ0 [], rfl⟩
          | cons ij q => rw [trn_at w (ij :: q) (by simp)]; trivial
        · by_cases hp0 : p = []
          · subst hp0
            have hold := c.mem.row x _ [] hm
            show RowOk I (ρ' x) wd [] z [AV.agg (cs.set j (.tr w []))]
            have hold' : RowOk I (ρ x) wd [] z [AV.agg cs] := hold
            rcases hold' with ⟨_, h⟩ | ⟨k, E', arr, h1, h2, h3, h4, h5, h7, h8⟩
            · cases h
            · refine .inr ⟨k, E', arr, by rw [hρ x [] (fun h => by cases h.2)]; exact h1, h2, h3, h4, h5, h7, fun i hi => ?_⟩
              have hi0 : i = 0 := by simp at hi; omega
              subst hi0
              obtain ⟨g1, g2⟩ := h8 0 (by simp)
              refine ⟨by simpa [AV.cells] using g1, fun j' hj' => ?_⟩
              have hj2 : j' < cs.length := by simpa [AV.cells] using hj'
              obtain ⟨g3, g4⟩ := g2 j' (by simpa [AV.cells] using hj2)
              refine ⟨?_, g4⟩
              by_cases e : j' = j
              · subst e
                have g3' : CellOk I (ρ x ([] ++ [(0, j')])) (cs[j']) (arr.getD (k.off + 0 * z + j') undef) := by simpa [AV.cells] using g3
                rw [hcj] at g3'
                have hce : (AV.agg (cs.set j' (.tr w []))).cells[j'] = .tr w [] := by simp [AV.cells]
                show CellOk I (ρ' x ([] ++ [(0, j')])) ((AV.agg (cs.set j' (.tr w []))).cells[j']) _
                rw [hce]
                refine .inl ⟨rfl, .inr ⟨rfl, ?_⟩⟩
                rcases g3' with ⟨q, _⟩ | ⟨_, q⟩
                · cases q
                · generalize arr.getD (k.off + 0 * z + j') undef = y at q ⊢
                  cases q; exact ⟨none, rfl⟩
              · have hce : (AV.agg (cs.set j (.tr w []))).cells[j'] = cs[j'] := by
                  simp only [AV.cells]; rw [List.getElem_set_ne (fun h => e h.symm)]
                show CellOk I (ρ' x ([] ++ [(0, j')])) ((AV.agg (cs.set j (.tr w []))).cells[j']) _
                rw [hce, hρ x _ (fun h => by obtain ⟨q, hq⟩ := (pref1 j _).1 h.2; simp at hq; exact e hq.1)]
                simpa [AV.cells] using g3
          · rw [hat p hp hp0]
            have := c.mem.row x _ p hm
            have hp1 : ∀ q : Path, ¬ (x = x ∧ isPref [(0, j)] (p ++ q) = true) := by
              rintro q ⟨_, h⟩
              obtain ⟨r, hr⟩ := (pref1 j _).1 h
              cases p with
              | nil => exact hp0 rfl
              | cons a p => simp at hr; exact hp ⟨p, by rw [hr.1]⟩
            have hpp : ρ' x p = ρ x p := by have := hp1 []; rw [List.append_nil] at this; exact hρ x p this
            generalize (AV.pt z (AV.agg cs)).at p = Y at this ⊢
            cases Y with
            | tr z' es =>
              rcases this with ⟨h1, h2⟩ | ⟨k, E', arr, h1, h2, h3, h4, h5, h7, h8⟩
              · exact .inl ⟨hpp.trans h1, h2⟩
              · exact .inr ⟨k, E', arr, hpp.trans h1, h2, h3, h4, h5, h7, fun i hi => ⟨(h8 i hi).1, fun j' hj' => by rw [hρ x _ (hp1 _)]; exact (h8 i hi).2 j' hj'⟩⟩
            | pt z' y =>
              rcases this with ⟨h1, h2⟩ | ⟨k, E', arr, h1, h2, h3, h4, h5, h7, h8⟩
              · cases h2
              · exact .inr ⟨k, E', arr, hpp.trans h1, h2, h3, h4, h5, h7, fun i hi => ⟨(h8 i hi).1, fun j' hj' => by rw [hρ x _ (hp1 _)]; exact (h8 i hi).2 j' hj'⟩⟩
            | mt kd m => obtain ⟨k, es, cp, h1, h2⟩ := this; exact ⟨k, es, cp, hpp.trans h1, h2⟩
            | _ => trivial
      · have : ρ' x = ρ x := by funext p; exact hρ x p (fun h => e h.1)
        rw [this]; exact c.mem.row x X p hx'
    · obtain ⟨Y, k1, k2, k3⟩ := hold x X p k hx hn hk
      exact c.mem.free x Y p k k1 k2 k3
    · obtain ⟨Y, k1, k2, k3⟩ := hold x X p k h1 h2 h3
      obtain ⟨Y', j1, j2, j3⟩ := hold x' X' p' k' h4 h5 h7
      exact c.mem.inj x Y p k x' Y' p' k' k1 k2 k3 j1 j2 j3 hb
  refine ⟨I, ρ', c.remap (ρ' := ρ') (mem' := (st.nilC s j z w cs).mem) (fromF s [(0, j)]) (fun x p x' p' hf => ?_) c.held (fun _ _ _ h => h) c.below c.keeps hsep (fun b hb => ?_) (fun i c' X q h1 hX h3 => ?_)⟩
  · unfold fromF at hf
    by_cases e : x = s
    · rw [if_pos e] at hf
      cases h : isPref [(0, j)] p with
      | true => rw [h] at hf; cases hf
      | false => rw [h] at hf; cases hf; exact hρ x p (fun q => by rw [h] at q; cases q.2)
    · rw [if_neg e] at hf; cases hf; exact hρ x p (fun q => e q.1)
  · obtain ⟨x, X, p, k, h1, h2, h3, h4⟩ := hb
    obtain ⟨Y, k1, k2, k3⟩ := hold x X p k h1 h2 h3
    exact c.lo b ⟨x, Y, p, k, k1, k2, k3, h4⟩
  · rcases hmem i X hX with ⟨rfl, rfl⟩ | ⟨e, hx'⟩
    · have hq : q = [] := h3
      subst hq
      rw [hρ i [] (fun h => by cases h.2)]
      exact c.fix i c' _ [] h1 hm rfl
    · rw [hρ i q (fun h => e h.1)]; exact c.fix i c' X q h1 hx' h3
theorem awp_loopC {P : Program} {M : FuncId → List Bool} {c : Code} {Q : Exit → St → Prop} {st : St} {l : Lock c} {m : Lock Q} (s j z w : Nat) (cs : List AV) (hm : st.mem s = some (.pt z (.agg cs))) (hj : j < cs.length) (hc : cs.getD j .any = .nilsl) (J : Nat → St → Prop) (N : Nat) (h0 : J 0 (st.nilC s j z w cs))
    (h : ∀ k st1, k ≤ N → J k st1 → AWP P M c (thenQ (fun st' => k < N ∧ J (k + 1) st') Q) st1) : LoopP P M c Q st l m :=
  awp_loopE (st.nilC s j z w cs) (ent_nilC st s j z w cs hm hj hc) J N h0 h
theorem nilAs_eq (st : St) (d s z : Nat) : st.nilAs d s z = ((st.kill s).setMem s (.tr z [])).put (some d) (.ref s [] z 0 0) := rfl
end Go.AM
set_option maxRecDepth 8000
namespace Go.AM
open Go.Proofs
theorem repl_len (n : Nat) (x : Int) : (List.replicate n x).length = n := by simp
theorem iidentity (n : Nat) (hn : n ≤ 1099511627776) : SpecAt Try.prog 99 [.i64 n] (itr (runI 0 n)) := by
  refine spec_of_awp (M := MM) (np := 1) (fz := false) mixed Try.func99 rfl rfl (by decide) rfl (Nat.le_refl _) (by decide +kernel) (.inl rfl) (by first | trivial | simp only [sigsOk_nil, sigsOk_some, sigsOk_none, sig_tr, sig_pt, sig_mt, sig_agg, List.map_cons, List.map_nil, sig1_tr, sig1_pt, sig1_v, and_self, true_and, List.length_map, List.length_set]) ?_
  have hr := runI_len 0 n
  simp -dsimp -implicitDefEqProofs (disch := first | omega | (simp only [lenr]; done) | (simp only [lenr]; omega)) only [↓amPre, amAll, ↓reduceIte, reduceCtorEq, Nat.reduceEqDiff, Nat.reduceBEq, Nat.reduceAdd, Nat.reduceLeDiff, Nat.reduceSub, Nat.reduceMul, Int.reduceToNat, List.size_toArray, tyF, MM, bu0, ipure, kpure, tpure, sspure, kset, tset, ksnoc, tsnoc, Kind.av, Twist.sl, Twist.tr, Invar.av, stsize, stget, sttl, stapp, stext, tsspure, Model.sl, Model.tr]
  refine awp_loop (fun j st => j ≤ n ∧ st.fr 9 = .i64 j ∧ st.fr 8 = .i64 n ∧ st.fr 3 = .ref 6 [] 1 0 n ∧ st.mem 6 = some (itr (mixL (runI 0 n) (List.replicate n 0) j))) (n) ?_ ?_
  · simp -dsimp -implicitDefEqProofs (disch := first | omega | (simp only [lenr]; done) | (simp only [lenr]; omega)) only [↓amPre, amAll, ↓reduceIte, reduceCtorEq, Nat.reduceEqDiff, Nat.reduceBEq, Nat.reduceAdd, Nat.reduceLeDiff, Nat.reduceSub, Nat.reduceMul, Int.reduceToNat, List.size_toArray, tyF, MM, bu0, ipure, kpure, tpure, sspure, kset, tset, ksnoc, tsnoc, Kind.av, Twist.sl, Twist.tr, Invar.av, stsize, stget, sttl, stapp, stext, tsspure, Model.sl, Model.tr, mixL_zero]
    simp
  rintro j st _ ⟨hj, f9, f8, f3, m6⟩
  have hm := mixL_len (runI 0 n) (List.replicate n 0) j (by simp [hr])
  rw [List.length_replicate] at hm
  by_cases hlt : j < n
  · have hs := mixL_set (runI 0 n) (List.replicate n 0) j 0 (by simp [hr]) (by simp; omega)
    rw [runI_get 0 n j hlt, Int.zero_add] at hs
    simp -dsimp -implicitDefEqProofs (disch := first | omega | (simp only [lenr]; done) | (simp only [lenr]; omega)) only [↓amPre, amAll, ↓reduceIte, reduceCtorEq, Nat.reduceEqDiff, Nat.reduceBEq, Nat.reduceAdd, Nat.reduceLeDiff, Nat.reduceSub, Nat.reduceMul, Int.reduceToNat, List.size_toArray, tyF, MM, bu0, ipure, kpure, tpure, sspure, kset, tset, ksnoc, tsnoc, Kind.av, Twist.sl, Twist.tr, Invar.av, stsize, stget, sttl, stapp, stext, tsspure, Model.sl, Model.tr, f9, f8, f3, m6, hm, hs]
    repeat' (first | omega | rfl | exact i64c (by omega) | exact vic (by omega) | apply And.intro)
  · have hje : j = n := by omega
    subst hje
    have := mixL_all (runI 0 j) (List.replicate j 0) j (by omega) (by simp)
    simp -dsimp -implicitDefEqProofs (disch := first | omega | (simp only [lenr]; done) | (simp only [lenr]; omega)) only [↓amPre, amAll, ↓reduceIte, reduceCtorEq, Nat.reduceEqDiff, Nat.reduceBEq, Nat.reduceAdd, Nat.reduceLeDiff, Nat.reduceSub, Nat.reduceMul, Int.reduceToNat, List.size_toArray, tyF, MM, bu0, ipure, kpure, tpure, sspure, kset, tset, ksnoc, tsnoc, Kind.av, Twist.sl, Twist.tr, Invar.av, stsize, stget, sttl, stapp, stext, tsspure, Model.sl, Model.tr, f9, f8, f3, m6, hm, hr, this]
theorem icompose (p q : List Int) (hp : p.length ≤ 1099511627776) (hq : ∀ x ∈ p, 0 ≤ x ∧ x < q.length) : SpecAt Try.prog 100 [isl p, isl q] (itr (compI p q)) := by
  have hc : (compI p q).length = p.length := by simp [compI]
  refine spec_of_awp (M := MM) (np := 2) (fz := false) mixed Try.func100 rfl rfl (by decide) rfl (Nat.le_refl _) (by decide +kernel) (.inl rfl) (by first | trivial | simp only [sigsOk_nil, sigsOk_some, sigsOk_none, sig_tr, sig_pt, sig_mt, sig_agg, List.map_cons, List.map_nil, sig1_tr, sig1_pt, sig1_v, and_self, true_and, List.length_map, List.length_set]) ?_
  simp -dsimp -implicitDefEqProofs (disch := first | omega | (simp only [lenr]; done) | (simp only [lenr]; omega)) only [↓amPre, amAll, ↓reduceIte, reduceCtorEq, Nat.reduceEqDiff, Nat.reduceBEq, Nat.reduceAdd, Nat.reduceLeDiff, Nat.reduceSub, Nat.reduceMul, Int.reduceToNat, List.size_toArray, tyF, MM, bu0, ipure, kpure, tpure, sspure, kset, tset, ksnoc, tsnoc, Kind.av, Twist.sl, Twist.tr, Invar.av, stsize, stget, sttl, stapp, stext, tsspure, Model.sl, Model.tr]
  refine awp_loop (fun j st => j ≤ p.length ∧ st.fr 13 = .i64 j ∧ st.fr 12 = .i64 p.length ∧ st.fr 11 = isl p ∧ st.fr 1 = isl q ∧ st.fr 5 = .ref 10 [] 1 0 p.length ∧ st.mem 10 = some (itr (mixL (compI p q) (List.replicate p.length 0) j))) (p.length) ?_ ?_
  · simp -dsimp -implicitDefEqProofs (disch := first | omega | (simp only [lenr]; done) | (simp only [lenr]; omega)) only [↓amPre, amAll, ↓reduceIte, reduceCtorEq, Nat.reduceEqDiff, Nat.reduceBEq, Nat.reduceAdd, Nat.reduceLeDiff, Nat.reduceSub, Nat.reduceMul, Int.reduceToNat, List.size_toArray, tyF, MM, bu0, ipure, kpure, tpure, sspure, kset, tset, ksnoc, tsnoc, Kind.av, Twist.sl, Twist.tr, Invar.av, stsize, stget, sttl, stapp, stext, tsspure, Model.sl, Model.tr, mixL_zero]
    simp
  rintro j st _ ⟨hj, f13, f12, f11, f1, f5, m10⟩
  have hm := mixL_len (compI p q) (List.replicate p.length 0) j (by simp [hc])
  rw [List.length_replicate] at hm
  by_cases hlt : j < p.length
  · have hx := hq _ (mem_getD p j 0 hlt)
    have hs := mixL_set (compI p q) (List.replicate p.length 0) j 0 (by simp [hc]) (by simp; omega)
    have hg : (compI p q).getD j 0 = q.getD (p.getD j 0).toNat 0 := by simp [compI, List.getD, hlt]
    rw [hg] at hs
    simp -dsimp -implicitDefEqProofs (disch := first | omega | (simp only [lenr]; done) | (simp only [lenr]; omega)) only [↓amPre, amAll, ↓reduceIte, reduceCtorEq, Nat.reduceEqDiff, Nat.reduceBEq, Nat.reduceAdd, Nat.reduceLeDiff, Nat.reduceSub, Nat.reduceMul, Int.reduceToNat, List.size_toArray, tyF, MM, bu0, ipure, kpure, tpure, sspure, kset, tset, ksnoc, tsnoc, Kind.av, Twist.sl, Twist.tr, Invar.av, stsize, stget, sttl, stapp, stext, tsspure, Model.sl, Model.tr, f13, f12, f11, f1, f5, m10, hm, hs]
    repeat' (first | omega | rfl | exact i64c (by omega) | exact vic (by omega) | apply And.intro)
  · have hje : j = p.length := by omega
    subst hje
    have := mixL_all (compI p q) (List.replicate p.length 0) p.length (by omega) (by simp)
    simp -dsimp -implicitDefEqProofs (disch := first | omega | (simp only [lenr]; done) | (simp only [lenr]; omega)) only [↓amPre, amAll, ↓reduceIte, reduceCtorEq, Nat.reduceEqDiff, Nat.reduceBEq, Nat.reduceAdd, Nat.reduceLeDiff, Nat.reduceSub, Nat.reduceMul, Int.reduceToNat, List.size_toArray, tyF, MM, bu0, ipure, kpure, tpure, sspure, kset, tset, ksnoc, tsnoc, Kind.av, Twist.sl, Twist.tr, Invar.av, stsize, stget, sttl, stapp, stext, tsspure, Model.sl, Model.tr, f13, f12, f11, f1, f5, m10, hm, hc, this]
theorem isolvedPieces (ks : List Kind) (hl : ks.length ≤ 1099511627776) : SpecAt Try.prog 28 [ksl ks] (ttr (solvedR ks)) := by
  refine spec_of_awp (M := MM) (np := 1) (fz := false) mixed Try.func28 rfl rfl (by decide) rfl (Nat.le_refl _) (by decide +kernel) (.inl rfl) (by first | trivial | simp only [sigsOk_nil, sigsOk_some, sigsOk_none, sig_tr, sig_pt, sig_mt, sig_agg, List.map_cons, List.map_nil, sig1_tr, sig1_pt, sig1_v, and_self, true_and, List.length_map, List.length_set]) ?_
  simp -dsimp -implicitDefEqProofs (disch := first | omega | (simp only [lenr]; done) | (simp only [lenr]; omega)) only [↓amPre, amAll, ↓reduceIte, reduceCtorEq, Nat.reduceEqDiff, Nat.reduceBEq, Nat.reduceAdd, Nat.reduceLeDiff, Nat.reduceSub, Nat.reduceMul, Int.reduceToNat, List.size_toArray, tyF, MM, bu0, ipure, kpure, tpure, sspure, kset, tset, ksnoc, tsnoc, Kind.av, Twist.sl, Twist.tr, Invar.av, stsize, stget, sttl, stapp, stext, tsspure, Model.sl, Model.tr]
  refine callP_of (iAreValidKinds _ hl) ?_
  by_cases h : kindsOk ks
  · have hl3 := h.1.2
    have hR : solvedR ks = ks.map solvedK := if_pos h
    simp -dsimp -implicitDefEqProofs (disch := first | omega | (simp only [lenr]; done) | (simp only [lenr]; omega)) only [↓amPre, amAll, ↓reduceIte, reduceCtorEq, Nat.reduceEqDiff, Nat.reduceBEq, Nat.reduceAdd, Nat.reduceLeDiff, Nat.reduceSub, Nat.reduceMul, Int.reduceToNat, List.size_toArray, tyF, MM, bu0, ipure, kpure, tpure, sspure, kset, tset, ksnoc, tsnoc, Kind.av, Twist.sl, Twist.tr, Invar.av, stsize, stget, sttl, stapp, stext, tsspure, Model.sl, Model.tr, h]
    refine awp_loopN 3 24 2 (by simp [St.put]) (by decide) (fun k st => k ≤ ks.length ∧ st.fr 11 = .i64 k ∧ st.fr 10 = .i64 ks.length ∧ st.fr 9 = ksl ks ∧ st.fr 3 = .ref 24 [] 2 0 k ∧ st.mem 24 = some (ttr ((ks.take k).map solvedK))) ks.length ?_ ?_
    · simp -dsimp -implicitDefEqProofs (disch := first | omega | (simp only [lenr]; done) | (simp only [lenr]; omega)) only [↓amPre, amAll, ↓reduceIte, reduceCtorEq, Nat.reduceEqDiff, Nat.reduceBEq, Nat.reduceAdd, Nat.reduceLeDiff, Nat.reduceSub, Nat.reduceMul, Int.reduceToNat, List.size_toArray, tyF, MM, bu0, ipure, kpure, tpure, sspure, kset, tset, ksnoc, tsnoc, Kind.av, Twist.sl, Twist.tr, Invar.av, stsize, stget, sttl, stapp, stext, tsspure, Model.sl, Model.tr, nilAs_eq]
      simp
    rintro k st _ ⟨hk, f11, f10, f9, f3, m24⟩
    by_cases hlt : k < ks.length
    · obtain ⟨c1, c2, o1, o2, _⟩ := kindsOk_kind h (mem_getD ks k default hlt)
      obtain ⟨c, hc⟩ : ∃ c : Nat, (ks.getD k default).c = c := ⟨(ks.getD k default).c.toNat, by omega⟩
      have hms := map_take_succ solvedK ks k default hlt
      have hsk : solvedK (ks.getD k default) = ⟨runI 0 c, List.replicate c 0⟩ := by rw [solvedK, hc, Int.toNat_natCast]
      have hrp : List.replicate c (AV.v (Value.int .i64 0)) = (List.replicate c (0:Int)).map AV.i64 := by simp
      have hr := runI_len 0 c
      rw [hsk] at hms
      have hml : ((ks.take k).map solvedK).length = k := by simp; omega
      simp -dsimp -implicitDefEqProofs (disch := first | omega | (simp only [lenr]; done) | (simp only [lenr]; omega)) only [↓amPre, amAll, ↓reduceIte, reduceCtorEq, Nat.reduceEqDiff, Nat.reduceBEq, Nat.reduceAdd, Nat.reduceLeDiff, Nat.reduceSub, Nat.reduceMul, Int.reduceToNat, List.size_toArray, tyF, MM, bu0, ipure, kpure, tpure, sspure, kset, tset, ksnoc, tsnoc, Kind.av, Twist.sl, Twist.tr, Invar.av, stsize, stget, sttl, stapp, stext, tsspure, Model.sl, Model.tr, f11, f10, f9, f3, m24, hc]
      refine callP_of (iidentity c (by omega)) ?_
      simp -dsimp -implicitDefEqProofs (disch := first | omega | (simp only [lenr]; done) | (simp only [lenr]; omega)) only [↓amPre, amAll, ↓reduceIte, reduceCtorEq, Nat.reduceEqDiff, Nat.reduceBEq, Nat.reduceAdd, Nat.reduceLeDiff, Nat.reduceSub, Nat.reduceMul, Int.reduceToNat, List.size_toArray, tyF, MM, bu0, ipure, kpure, tpure, sspure, kset, tset, ksnoc, tsnoc, Kind.av, Twist.sl, Twist.tr, Invar.av, stsize, stget, sttl, stapp, stext, tsspure, Model.sl, Model.tr, f11, f10, f9, f3, m24, hc, hr, hml, repl_len, ← hms]
      repeat' (first | omega | rfl | exact i64c (by omega) | exact vic (by omega) | apply And.intro)
    · have hke : k = ks.length := by omega
      subst hke
      have hml : ((ks.take ks.length).map solvedK).length = ks.length := by simp
      simp -dsimp -implicitDefEqProofs (disch := first | omega | (simp only [lenr]; done) | (simp only [lenr]; omega)) only [↓amPre, amAll, ↓reduceIte, reduceCtorEq, Nat.reduceEqDiff, Nat.reduceBEq, Nat.reduceAdd, Nat.reduceLeDiff, Nat.reduceSub, Nat.reduceMul, Int.reduceToNat, List.size_toArray, tyF, MM, bu0, ipure, kpure, tpure, sspure, kset, tset, ksnoc, tsnoc, Kind.av, Twist.sl, Twist.tr, Invar.av, stsize, stget, sttl, stapp, stext, tsspure, Model.sl, Model.tr, f11, f10, f9, f3, m24, hR, hml, List.take_length]
  · have hR : solvedR ks = [] := if_neg h
    simp -dsimp -implicitDefEqProofs (disch := first | omega | (simp only [lenr]; done) | (simp only [lenr]; omega)) only [↓amPre, amAll, ↓reduceIte, reduceCtorEq, Nat.reduceEqDiff, Nat.reduceBEq, Nat.reduceAdd, Nat.reduceLeDiff, Nat.reduceSub, Nat.reduceMul, Int.reduceToNat, List.size_toArray, tyF, MM, bu0, ipure, kpure, tpure, sspure, kset, tset, ksnoc, tsnoc, Kind.av, Twist.sl, Twist.tr, Invar.av, stsize, stget, sttl, stapp, stext, tsspure, Model.sl, Model.tr, h, hR]
end Go.AM
set_option maxRecDepth 8000
namespace Go.AM
open Go.Proofs
def compR (ks : List Kind) (a b : List Twist) : AV := if psOk ks a ∧ psOk ks b then .tup [ttr (compS ks a b), .bl true] else .tup [.tr 2 [], .bl false]
abbrev smallT (s : List Twist) : Prop := s.length ≤ 1099511627776 ∧ ∀ t ∈ s, t.to.length ≤ 1099511627776 ∧ t.by'.length ≤ 1099511627776
theorem icomposePieces (ks : List Kind) (a b : List Twist) (h1 : ks.length ≤ 1099511627776) (ha : smallT a) (hb : smallT b) : SpecAt Try.prog 29 [ksl ks, tsl a, tsl b] (compR ks a b) := by
  refine spec_of_awp (M := MM) (np := 3) (fz := false) mixed Try.func29 rfl rfl (by decide) rfl (Nat.le_refl _) (by decide +kernel) (.inl rfl) (by first | trivial | simp only [sigsOk_nil, sigsOk_some, sigsOk_none, sig_tr, sig_pt, sig_mt, sig_agg, List.map_cons, List.map_nil, sig1_tr, sig1_pt, sig1_v, and_self, true_and, List.length_map, List.length_set]) ?_
  simp -dsimp -implicitDefEqProofs (disch := first | omega | (simp only [lenr]; done) | (simp only [lenr]; omega)) only [↓amPre, amAll, ↓reduceIte, reduceCtorEq, Nat.reduceEqDiff, Nat.reduceBEq, Nat.reduceAdd, Nat.reduceLeDiff, Nat.reduceSub, Nat.reduceMul, Int.reduceToNat, List.size_toArray, tyF, MM, bu0, ipure, kpure, tpure, sspure, kset, tset, ksnoc, tsnoc, Kind.av, Twist.sl, Twist.tr, Invar.av, stsize, stget, sttl, stapp, stext, tsspure, Model.sl, Model.tr]
  refine callP_of (iIsPieceState ks a h1 ha.1 ha.2) ?_
  by_cases pa : psOk ks a
  case neg =>
    have hR : compR ks a b = .tup [.tr 2 [], .bl false] := if_neg fun h => pa h.1
    simp -dsimp -implicitDefEqProofs (disch := first | omega | (simp only [lenr]; done) | (simp only [lenr]; omega)) only [↓amPre, amAll, ↓reduceIte, reduceCtorEq, Nat.reduceEqDiff, Nat.reduceBEq, Nat.reduceAdd, Nat.reduceLeDiff, Nat.reduceSub, Nat.reduceMul, Int.reduceToNat, List.size_toArray, tyF, MM, bu0, ipure, kpure, tpure, sspure, kset, tset, ksnoc, tsnoc, Kind.av, Twist.sl, Twist.tr, Invar.av, stsize, stget, sttl, stapp, stext, tsspure, Model.sl, Model.tr, pa, hR]
  simp -dsimp -implicitDefEqProofs (disch := first | omega | (simp only [lenr]; done) | (simp only [lenr]; omega)) only [↓amPre, amAll, ↓reduceIte, reduceCtorEq, Nat.reduceEqDiff, Nat.reduceBEq, Nat.reduceAdd, Nat.reduceLeDiff, Nat.reduceSub, Nat.reduceMul, Int.reduceToNat, List.size_toArray, tyF, MM, bu0, ipure, kpure, tpure, sspure, kset, tset, ksnoc, tsnoc, Kind.av, Twist.sl, Twist.tr, Invar.av, stsize, stget, sttl, stapp, stext, tsspure, Model.sl, Model.tr, pa]
  refine callP_of (iIsPieceState ks b h1 hb.1 hb.2) ?_
  by_cases pb : psOk ks b
  case neg =>
    have hR : compR ks a b = .tup [.tr 2 [], .bl false] := if_neg fun h => pb h.2
    simp -dsimp -implicitDefEqProofs (disch := first | omega | (simp only [lenr]; done) | (simp only [lenr]; omega)) only [↓amPre, amAll, ↓reduceIte, reduceCtorEq, Nat.reduceEqDiff, Nat.reduceBEq, Nat.reduceAdd, Nat.reduceLeDiff, Nat.reduceSub, Nat.reduceMul, Int.reduceToNat, List.size_toArray, tyF, MM, bu0, ipure, kpure, tpure, sspure, kset, tset, ksnoc, tsnoc, Kind.av, Twist.sl, Twist.tr, Invar.av, stsize, stget, sttl, stapp, stext, tsspure, Model.sl, Model.tr, pb, hR]
  have hR : compR ks a b = .tup [ttr (compS ks a b), .bl true] := if_pos ⟨pa, pb⟩
  have hl3 := pa.1.1.2
  have hal := pa.2.1
  have hbl := pb.2.1
  simp -dsimp -implicitDefEqProofs (disch := first | omega | (simp only [lenr]; done) | (simp only [lenr]; omega)) only [↓amPre, amAll, ↓reduceIte, reduceCtorEq, Nat.reduceEqDiff, Nat.reduceBEq, Nat.reduceAdd, Nat.reduceLeDiff, Nat.reduceSub, Nat.reduceMul, Int.reduceToNat, List.size_toArray, tyF, MM, bu0, ipure, kpure, tpure, sspure, kset, tset, ksnoc, tsnoc, Kind.av, Twist.sl, Twist.tr, Invar.av, stsize, stget, sttl, stapp, stext, tsspure, Model.sl, Model.tr, pb]
  refine awp_loopN 8 85 2 (by simp -dsimp -implicitDefEqProofs (disch := first | omega | (simp only [lenr]; done) | (simp only [lenr]; omega)) only [↓amPre, amAll, ↓reduceIte, reduceCtorEq, Nat.reduceEqDiff, Nat.reduceBEq, Nat.reduceAdd, Nat.reduceLeDiff, Nat.reduceSub, Nat.reduceMul, Int.reduceToNat, List.size_toArray, tyF, MM, bu0, ipure, kpure, tpure, sspure, kset, tset, ksnoc, tsnoc, Kind.av, Twist.sl, Twist.tr, Invar.av, stsize, stget, sttl, stapp, stext, tsspure, Model.sl, Model.tr]) (by decide) (fun k st => k ≤ ks.length ∧ st.fr 26 = .i64 k ∧ st.fr 25 = .i64 ks.length ∧ st.fr 24 = ksl ks ∧ st.fr 1 = tsl a ∧ st.fr 2 = tsl b ∧ st.fr 8 = .ref 85 [] 2 0 k ∧ st.mem 85 = some (ttr ((compS ks a b).take k))) (ks.length) ?_ ?_
  · simp -dsimp -implicitDefEqProofs (disch := first | omega | (simp only [lenr]; done) | (simp only [lenr]; omega)) only [↓amPre, amAll, ↓reduceIte, reduceCtorEq, Nat.reduceEqDiff, Nat.reduceBEq, Nat.reduceAdd, Nat.reduceLeDiff, Nat.reduceSub, Nat.reduceMul, Int.reduceToNat, List.size_toArray, tyF, MM, bu0, ipure, kpure, tpure, sspure, kset, tset, ksnoc, tsnoc, Kind.av, Twist.sl, Twist.tr, Invar.av, stsize, stget, sttl, stapp, stext, tsspure, Model.sl, Model.tr, nilAs_eq]
    simp
  rintro k st _ ⟨hk, f26, f25, f24, f1, f2, f8, m85⟩
  have hcl := compS_len ks a b
  have hml : ((compS ks a b).take k).length = k := by simp; omega
  by_cases hlt : k < ks.length
  · have hk := pa.1.2.1 _ (mem_getD ks k default hlt)
    have ta := tw_get pa hlt
    have tb := tw_get pb hlt
    have hms := take_succ_eq (compS ks a b) k default (by omega)
    rw [compS, range_map_get _ _ _ _ hlt, ← compS] at hms
    obtain ⟨c, o, hc, ho, la, la', c1, c2, o1, o2⟩ := twOk_facts ta hk
    obtain ⟨c', o', hc', ho', lb, lb', _⟩ := twOk_facts tb hk
    have ecc : c = c' := by omega
    subst ecc
    generalize hA : a.getD k default = A at ta la la' hms
    generalize hB : b.getD k default = B at tb lb lb' hms
    simp -dsimp -implicitDefEqProofs (disch := first | omega | (simp only [lenr]; done) | (simp only [lenr]; omega)) only [↓amPre, amAll, ↓reduceIte, reduceCtorEq, Nat.reduceEqDiff, Nat.reduceBEq, Nat.reduceAdd, Nat.reduceLeDiff, Nat.reduceSub, Nat.reduceMul, Int.reduceToNat, List.size_toArray, tyF, MM, bu0, ipure, kpure, tpure, sspure, kset, tset, ksnoc, tsnoc, Kind.av, Twist.sl, Twist.tr, Invar.av, stsize, stget, sttl, stapp, stext, tsspure, Model.sl, Model.tr, f26, f25, f24, f1, f2, f8, m85, hA, hB, hc, ho]
    refine callP_of (icompose A.to B.to (by omega) (fun x hx => by have := ta.2.2.1.2.1 x hx; omega)) ?_
    simp -dsimp -implicitDefEqProofs (disch := first | omega | (simp only [lenr]; done) | (simp only [lenr]; omega)) only [↓amPre, amAll, ↓reduceIte, reduceCtorEq, Nat.reduceEqDiff, Nat.reduceBEq, Nat.reduceAdd, Nat.reduceLeDiff, Nat.reduceSub, Nat.reduceMul, Int.reduceToNat, List.size_toArray, tyF, MM, bu0, ipure, kpure, tpure, sspure, kset, tset, ksnoc, tsnoc, Kind.av, Twist.sl, Twist.tr, Invar.av, stsize, stget, sttl, stapp, stext, tsspure, Model.sl, Model.tr, f26, f25, f24, f1, f2, f8, m85, hA, hB, hc, ho]
    have hcb : ((List.range A.to.length).map (compB o A B)).length = (List.replicate c (0:Int)).length := by simp [la]
    refine awp_loop (fun i st => i ≤ c ∧ st.fr 52 = .i64 i ∧ st.fr 51 = .i64 c ∧ st.fr 50 = isl A.to ∧ st.fr 26 = .i64 k ∧ st.fr 25 = .i64 ks.length ∧ st.fr 24 = ksl ks ∧ st.fr 1 = tsl a ∧ st.fr 2 = tsl b ∧ st.fr 9 = .i64 k ∧ st.fr 10 = .loc 10 [] 0 0 ∧ st.fr 11 = .loc 11 [] 0 0 ∧ st.fr 8 = .ref 85 [] 2 0 k ∧ st.mem 10 = some (.pt 2 (.agg [.i64 c, .i64 o])) ∧ st.mem 11 = some (.pt 2 (.agg [itr (compI A.to B.to), itr (mixL ((List.range A.to.length).map (compB o A B)) (List.replicate c 0) i)])) ∧ st.mem 85 = some (ttr ((compS ks a b).take k))) (c) ?_ ?_
    · simp -dsimp -implicitDefEqProofs (disch := first | omega | (simp only [lenr]; done) | (simp only [lenr]; omega)) only [↓amPre, amAll, ↓reduceIte, reduceCtorEq, Nat.reduceEqDiff, Nat.reduceBEq, Nat.reduceAdd, Nat.reduceLeDiff, Nat.reduceSub, Nat.reduceMul, Int.reduceToNat, List.size_toArray, tyF, MM, bu0, ipure, kpure, tpure, sspure, kset, tset, ksnoc, tsnoc, Kind.av, Twist.sl, Twist.tr, Invar.av, stsize, stget, sttl, stapp, stext, tsspure, Model.sl, Model.tr, f26, f25, f24, f1, f2, f8, m85, mixL_zero, la]
      simp
    rintro i st _ ⟨hi, f52, f51, f50, f26, f25, f24, f1, f2, f9, f10, f11, f8, m10, m11, m85⟩
    have hm := mixL_len ((List.range A.to.length).map (compB o A B)) (List.replicate c 0) i hcb
    rw [List.length_replicate] at hm
    by_cases hlt' : i < c
    · have hx := to_get ta (show i < A.to.length by omega)
      have hy := by_get ta (show i < A.by'.length by omega)
      have hz := by_get tb (show (A.to.getD i 0).toNat < B.by'.length by omega)
      have hs := mixL_set ((List.range A.to.length).map (compB o A B)) (List.replicate c 0) i 0 hcb (by simp; omega)
      rw [range_map_get _ _ _ _ (by omega), compB] at hs
      simp -dsimp -implicitDefEqProofs (disch := first | omega | (simp only [lenr]; done) | (simp only [lenr]; omega)) only [↓amPre, amAll, ↓reduceIte, reduceCtorEq, Nat.reduceEqDiff, Nat.reduceBEq, Nat.reduceAdd, Nat.reduceLeDiff, Nat.reduceSub, Nat.reduceMul, Int.reduceToNat, List.size_toArray, tyF, MM, bu0, ipure, kpure, tpure, sspure, kset, tset, ksnoc, tsnoc, Kind.av, Twist.sl, Twist.tr, Invar.av, stsize, stget, sttl, stapp, stext, tsspure, Model.sl, Model.tr, f52, f51, f50, f26, f25, f24, f1, f2, f9, f10, f11, f8, m10, m11, m85, hA, hB, hm, hs]
      repeat' (first | omega | rfl | exact i64c (by omega) | exact vic (by omega) | apply And.intro)
    · have hie : i = c := by omega
      subst hie
      have := mixL_all ((List.range A.to.length).map (compB o A B)) (List.replicate i 0) i (by simp; omega) (by simp)
      rw [compT, ho] at hms
      simp -dsimp -implicitDefEqProofs (disch := first | omega | (simp only [lenr]; done) | (simp only [lenr]; omega)) only [↓amPre, amAll, ↓reduceIte, reduceCtorEq, Nat.reduceEqDiff, Nat.reduceBEq, Nat.reduceAdd, Nat.reduceLeDiff, Nat.reduceSub, Nat.reduceMul, Int.reduceToNat, List.size_toArray, tyF, MM, bu0, ipure, kpure, tpure, sspure, kset, tset, ksnoc, tsnoc, Kind.av, Twist.sl, Twist.tr, Invar.av, stsize, stget, sttl, stapp, stext, tsspure, Model.sl, Model.tr, f52, f51, f50, f26, f25, f24, f1, f2, f9, f10, f11, f8, m10, m11, m85, hm, hml, this, ← hms]
      repeat' (first | omega | rfl | exact i64c (by omega) | exact vic (by omega) | apply And.intro)
  · have hke : k = ks.length := by omega
    subst hke
    simp -dsimp -implicitDefEqProofs (disch := first | omega | (simp only [lenr]; done) | (simp only [lenr]; omega)) only [↓amPre, amAll, ↓reduceIte, reduceCtorEq, Nat.reduceEqDiff, Nat.reduceBEq, Nat.reduceAdd, Nat.reduceLeDiff, Nat.reduceSub, Nat.reduceMul, Int.reduceToNat, List.size_toArray, tyF, MM, bu0, ipure, kpure, tpure, sspure, kset, tset, ksnoc, tsnoc, Kind.av, Twist.sl, Twist.tr, Invar.av, stsize, stget, sttl, stapp, stext, tsspure, Model.sl, Model.tr, f26, f25, f24, f1, f2, f8, m85, hml, hcl, hR]
end Go.AM
set_option maxRecDepth 8000
namespace Go.AM
open Go.Proofs
def invR (ks : List Kind) (a : List Twist) : AV := if psOk ks a then .tup [ttr (invS ks a), .bl true] else .tup [.tr 2 [], .bl false]
end Go.AM
set_option maxRecDepth 8000
namespace Go.AM
open Go.Proofs
def fewT (s : List Twist) : Prop := s.length ≤ 3 ∧ (∀ t ∈ s, t.to.length ≤ 20 ∧ t.by'.length ≤ 20) ∧ cnts s ≤ 120
theorem fewT_of (s : List Twist) (h1 : s.length ≤ 3) (h2 : ∀ t ∈ s, t.to.length ≤ 20 ∧ t.by'.length ≤ 20) : fewT s := by
  refine ⟨h1, h2, ?_⟩
  have := cnts_bound s 40 (fun t ht => by have := h2 t ht; show t.to.length + t.by'.length ≤ 40; omega)
  omega
theorem fewT_small {s : List Twist} (h : fewT s) : smallT s := ⟨by have := h.1; omega, fun t ht => by have := h.2.1 t ht; omega⟩
abbrev wfT (s : List Twist) : Prop := s.length ≤ 9223372036854775807 ∧ ∀ t ∈ s, t.to.length ≤ 9223372036854775807 ∧ t.by'.length ≤ 9223372036854775807
end Go.AM
set_option maxRecDepth 8000
namespace Go.AM
open Go.Proofs
theorem prod_bound {a b : Int} (h1 : 0 ≤ a) (h2 : a ≤ 20) (h3 : 0 ≤ b) (h4 : b ≤ 20) : 0 ≤ a * b ∧ a * b ≤ 400 := by
  have := Int.mul_le_mul h2 h4 h3 (by omega)
  have := Int.mul_nonneg h1 h3
  omega
theorem natmul_bound {a b : Nat} (h2 : a ≤ 20) (h4 : b ≤ 20) : a * b ≤ 400 := Nat.mul_le_mul h2 h4
theorem permL_le {ks : List Kind} {s : List Twist} (h : kindsOk ks) {n : Nat} (hn : n ≤ ks.length) : (permL ks s n).length ≤ 20 := by
  have := permL_len ks s h.2.1 n hn
  have := (facets_mono ks h.2.1 n).1
  have := h.2.2
  omega
end Go.AM
set_option maxRecDepth 8000
namespace Go.AM
open Go.Proofs
theorem ipiecesToPerm (ks : List Kind) (s : List Twist) (ps : psOk ks s) : SpecAt Try.prog 95 [ksl ks, tsl s] (itr (permOf ks s)) := by
  have hl3 := ps.1.1.2
  have hsl := ps.2.1
  refine spec_of_awp (M := MM) (np := 2) (fz := false) mixed Try.func95 rfl rfl (by decide) rfl (Nat.le_refl _) (by decide +kernel) (.inl rfl) (by first | trivial | simp only [sigsOk_nil, sigsOk_some, sigsOk_none, sig_tr, sig_pt, sig_mt, sig_agg, List.map_cons, List.map_nil, sig1_tr, sig1_pt, sig1_v, and_self, true_and, List.length_map, List.length_set]) ?_
  simp -dsimp -implicitDefEqProofs (disch := first | omega | (simp only [lenr]; done) | (simp only [lenr]; omega)) only [↓amPre, amAll, ↓reduceIte, reduceCtorEq, Nat.reduceEqDiff, Nat.reduceBEq, Nat.reduceAdd, Nat.reduceLeDiff, Nat.reduceSub, Nat.reduceMul, Int.reduceToNat, List.size_toArray, tyF, MM, bu0, ipure, kpure, tpure, sspure, kset, tset, ksnoc, tsnoc, Kind.av, Twist.sl, Twist.tr, Invar.av, stsize, stget, sttl, stapp, stext, tsspure, Model.sl, Model.tr]
  refine awp_loopN 5 59 1 (by simp -dsimp -implicitDefEqProofs (disch := first | omega | (simp only [lenr]; done) | (simp only [lenr]; omega)) only [↓amPre, amAll, ↓reduceIte, reduceCtorEq, Nat.reduceEqDiff, Nat.reduceBEq, Nat.reduceAdd, Nat.reduceLeDiff, Nat.reduceSub, Nat.reduceMul, Int.reduceToNat, List.size_toArray, tyF, MM, bu0, ipure, kpure, tpure, sspure, kset, tset, ksnoc, tsnoc, Kind.av, Twist.sl, Twist.tr, Invar.av, stsize, stget, sttl, stapp, stext, tsspure, Model.sl, Model.tr]) (by decide) (fun k st => k ≤ ks.length ∧ st.fr 14 = .i64 k ∧ st.fr 13 = .i64 ks.length ∧ st.fr 12 = ksl ks ∧ st.fr 1 = tsl s ∧ st.fr 5 = .ref 59 [] 1 0 (permL ks s k).length ∧ st.mem 59 = some (itr (permL ks s k))) (ks.length) ?_ ?_
  · simp -dsimp -implicitDefEqProofs (disch := first | omega | (simp only [lenr]; done) | (simp only [lenr]; omega)) only [↓amPre, amAll, ↓reduceIte, reduceCtorEq, Nat.reduceEqDiff, Nat.reduceBEq, Nat.reduceAdd, Nat.reduceLeDiff, Nat.reduceSub, Nat.reduceMul, Int.reduceToNat, List.size_toArray, tyF, MM, bu0, ipure, kpure, tpure, sspure, kset, tset, ksnoc, tsnoc, Kind.av, Twist.sl, Twist.tr, Invar.av, stsize, stget, sttl, stapp, stext, tsspure, Model.sl, Model.tr, nilAs_eq]
    simp [permL]
  rintro k st _ ⟨hk, f14, f13, f12, f1, f5, m59⟩
  have hlen := permL_le (s := s) ps.1 hk
  by_cases hlt : k < ks.length
  · have hk2 := ps.1.2.1 _ (mem_getD ks k default hlt)
    have ta := tw_get ps hlt
    obtain ⟨c, o, hc, ho, la, la', c1, c2, o1, o2⟩ := twOk_facts ta hk2
    have hstep : permL ks s (k + 1) = permL ks s k ++ rowL (permL ks s k).length o (s.getD k default) c := by rw [permL, hc, ho, Int.toNat_natCast]
    generalize hA : s.getD k default = A at ta la la' hstep
    generalize hb : permL ks s k = B at hlen hstep f5 m59
    simp -dsimp -implicitDefEqProofs (disch := first | omega | (simp only [lenr]; done) | (simp only [lenr]; omega)) only [↓amPre, amAll, ↓reduceIte, reduceCtorEq, Nat.reduceEqDiff, Nat.reduceBEq, Nat.reduceAdd, Nat.reduceLeDiff, Nat.reduceSub, Nat.reduceMul, Int.reduceToNat, List.size_toArray, tyF, MM, bu0, ipure, kpure, tpure, sspure, kset, tset, ksnoc, tsnoc, Kind.av, Twist.sl, Twist.tr, Invar.av, stsize, stget, sttl, stapp, stext, tsspure, Model.sl, Model.tr, f14, f13, f12, f1, f5, m59, hA, hc, ho]
    refine callP_of (lenI _) ?_
    simp -dsimp -implicitDefEqProofs (disch := first | omega | (simp only [lenr]; done) | (simp only [lenr]; omega)) only [↓amPre, amAll, ↓reduceIte, reduceCtorEq, Nat.reduceEqDiff, Nat.reduceBEq, Nat.reduceAdd, Nat.reduceLeDiff, Nat.reduceSub, Nat.reduceMul, Int.reduceToNat, List.size_toArray, tyF, MM, bu0, ipure, kpure, tpure, sspure, kset, tset, ksnoc, tsnoc, Kind.av, Twist.sl, Twist.tr, Invar.av, stsize, stget, sttl, stapp, stext, tsspure, Model.sl, Model.tr, f14, f13, f12, f1, f5, m59, hA, hc, ho]
    refine awp_loop (fun i st => i ≤ c ∧ st.fr 27 = .i64 i ∧ st.fr 26 = .i64 c ∧ st.fr 25 = isl A.to ∧ st.fr 6 = .i64 k ∧ st.fr 7 = .loc 7 [] 0 0 ∧ st.fr 8 = .i64 B.length ∧ st.fr 14 = .i64 k ∧ st.fr 13 = .i64 ks.length ∧ st.fr 12 = ksl ks ∧ st.fr 1 = tsl s ∧ st.fr 5 = .ref 59 [] 1 0 (B ++ rowL B.length o A i).length ∧ st.mem 59 = some (itr (B ++ rowL B.length o A i)) ∧ st.mem 7 = some (.pt 2 (.agg [.i64 c, .i64 o]))) (c) ?_ ?_
    · simp -dsimp -implicitDefEqProofs (disch := first | omega | (simp only [lenr]; done) | (simp only [lenr]; omega)) only [↓amPre, amAll, ↓reduceIte, reduceCtorEq, Nat.reduceEqDiff, Nat.reduceBEq, Nat.reduceAdd, Nat.reduceLeDiff, Nat.reduceSub, Nat.reduceMul, Int.reduceToNat, List.size_toArray, tyF, MM, bu0, ipure, kpure, tpure, sspure, kset, tset, ksnoc, tsnoc, Kind.av, Twist.sl, Twist.tr, Invar.av, stsize, stget, sttl, stapp, stext, tsspure, Model.sl, Model.tr, f14, f13, f12, f1, f5, m59, rowL, la]
      simp
    rintro i st _ ⟨hi, f27, f26, f25, f6, f7, f8, f14, f13, f12, f1, f5, m59, m7⟩
    have hrl := rowL_len B.length o A i
    rw [Int.toNat_natCast] at hrl
    have hio := natmul_bound (show i ≤ 20 by omega) o2
    by_cases hlt' : i < c
    · have hx := to_get ta (show i < A.to.length by omega)
      have hy := by_get ta (show i < A.by'.length by omega)
      have hxo := prod_bound hx.1 (show A.to.getD i 0 ≤ 20 by omega) (show (0:Int) ≤ o by omega) (by omega)
      simp -dsimp -implicitDefEqProofs (disch := first | omega | (simp only [lenr]; done) | (simp only [lenr]; omega)) only [↓amPre, amAll, ↓reduceIte, reduceCtorEq, Nat.reduceEqDiff, Nat.reduceBEq, Nat.reduceAdd, Nat.reduceLeDiff, Nat.reduceSub, Nat.reduceMul, Int.reduceToNat, List.size_toArray, tyF, MM, bu0, ipure, kpure, tpure, sspure, kset, tset, ksnoc, tsnoc, Kind.av, Twist.sl, Twist.tr, Invar.av, stsize, stget, sttl, stapp, stext, tsspure, Model.sl, Model.tr, f27, f26, f25, f6, f7, f8, f14, f13, f12, f1, f5, m59, m7]
      refine awp_loop (fun j st => j ≤ o ∧ st.fr 34 = .i64 j ∧ st.fr 33 = .i64 o ∧ st.fr 9 = .i64 i ∧ st.fr 10 = .i64 (A.to.getD i 0) ∧ st.fr 27 = .i64 i ∧ st.fr 26 = .i64 c ∧ st.fr 25 = isl A.to ∧ st.fr 6 = .i64 k ∧ st.fr 7 = .loc 7 [] 0 0 ∧ st.fr 8 = .i64 B.length ∧ st.fr 14 = .i64 k ∧ st.fr 13 = .i64 ks.length ∧ st.fr 12 = ksl ks ∧ st.fr 1 = tsl s ∧ st.fr 5 = .ref 59 [] 1 0 (B ++ rowL B.length o A i ++ cellL B.length o (A.to.getD i 0) (A.by'.getD i 0) j).length ∧ st.mem 59 = some (itr (B ++ rowL B.length o A i ++ cellL B.length o (A.to.getD i 0) (A.by'.getD i 0) j)) ∧ st.mem 7 = some (.pt 2 (.agg [.i64 c, .i64 o]))) (o) ?_ ?_
      · simp -dsimp -implicitDefEqProofs (disch := first | omega | (simp only [lenr]; done) | (simp only [lenr]; omega)) only [↓amPre, amAll, ↓reduceIte, reduceCtorEq, Nat.reduceEqDiff, Nat.reduceBEq, Nat.reduceAdd, Nat.reduceLeDiff, Nat.reduceSub, Nat.reduceMul, Int.reduceToNat, List.size_toArray, tyF, MM, bu0, ipure, kpure, tpure, sspure, kset, tset, ksnoc, tsnoc, Kind.av, Twist.sl, Twist.tr, Invar.av, stsize, stget, sttl, stapp, stext, tsspure, Model.sl, Model.tr, f27, f26, f25, f6, f7, f8, f14, f13, f12, f1, f5, m59, m7, cellL, hrl]
        simp
      rintro j st _ ⟨hj, f34, f33, f9, f10, f27, f26, f25, f6, f7, f8, f14, f13, f12, f1, f5, m59, m7⟩
      have hcl := cellL_len B.length o (A.to.getD i 0) (A.by'.getD i 0) j
      have hll : (B ++ rowL B.length o A i ++ cellL B.length o (A.to.getD i 0) (A.by'.getD i 0) j).length = B.length + i * o + j := by simp only [List.length_append, hrl, hcl]
      by_cases hlt'' : j < o
      · have hcs := cellL_succ B.length o (A.to.getD i 0) (A.by'.getD i 0) j
        have hm1 := Int.tmod_nonneg (o : Int) (show (0:Int) ≤ j + A.by'.getD i 0 by omega)
        have hm2 := Int.tmod_lt_of_pos (j + A.by'.getD i 0) (show (0:Int) < o by omega)
        have hll2 : (B ++ rowL B.length o A i ++ cellL B.length o (A.to.getD i 0) (A.by'.getD i 0) (j + 1)).length = B.length + i * o + j + 1 := by simp only [List.length_append, hrl, cellL_len]; omega
        rw [hll] at f5
        have happ : B ++ rowL B.length o A i ++ cellL B.length o (A.to.getD i 0) (A.by'.getD i 0) j ++ [(B.length : Int) + A.to.getD i 0 * o + ((j : Int) + A.by'.getD i 0).tmod o] = B ++ rowL B.length o A i ++ cellL B.length o (A.to.getD i 0) (A.by'.getD i 0) (j + 1) := by rw [hcs]; simp only [List.append_assoc]
        simp -dsimp -implicitDefEqProofs (disch := first | omega | (simp only [lenr]; done) | (simp only [lenr]; omega)) only [↓amPre, amAll, ↓reduceIte, reduceCtorEq, Nat.reduceEqDiff, Nat.reduceBEq, Nat.reduceAdd, Nat.reduceLeDiff, Nat.reduceSub, Nat.reduceMul, Int.reduceToNat, List.size_toArray, tyF, MM, bu0, ipure, kpure, tpure, sspure, kset, tset, ksnoc, tsnoc, Kind.av, Twist.sl, Twist.tr, Invar.av, stsize, stget, sttl, stapp, stext, tsspure, Model.sl, Model.tr, f34, f33, f9, f10, f27, f26, f25, f6, f7, f8, f14, f13, f12, f1, f5, m59, m7, hA, hll, hll2, happ]
        repeat' (first | omega | rfl | exact i64c (by omega) | exact vic (by omega) | apply And.intro)
      · have hje : j = o := by omega
        subst hje
        have hrs : rowL B.length j A (i + 1) = rowL B.length j A i ++ cellL B.length j (A.to.getD i 0) (A.by'.getD i 0) j := by rw [rowL, Int.toNat_natCast]
        rw [List.append_assoc, ← hrs] at f5 m59
        simp -dsimp -implicitDefEqProofs (disch := first | omega | (simp only [lenr]; done) | (simp only [lenr]; omega)) only [↓amPre, amAll, ↓reduceIte, reduceCtorEq, Nat.reduceEqDiff, Nat.reduceBEq, Nat.reduceAdd, Nat.reduceLeDiff, Nat.reduceSub, Nat.reduceMul, Int.reduceToNat, List.size_toArray, tyF, MM, bu0, ipure, kpure, tpure, sspure, kset, tset, ksnoc, tsnoc, Kind.av, Twist.sl, Twist.tr, Invar.av, stsize, stget, sttl, stapp, stext, tsspure, Model.sl, Model.tr, f34, f33, f9, f10, f27, f26, f25, f6, f7, f8, f14, f13, f12, f1, f5, m59, m7]
        repeat' (first | omega | rfl | exact i64c (by omega) | exact vic (by omega) | apply And.intro)
    · have hie : i = c := by omega
      subst hie
      rw [← hstep] at f5 m59
      simp -dsimp -implicitDefEqProofs (disch := first | omega | (simp only [lenr]; done) | (simp only [lenr]; omega)) only [↓amPre, amAll, ↓reduceIte, reduceCtorEq, Nat.reduceEqDiff, Nat.reduceBEq, Nat.reduceAdd, Nat.reduceLeDiff, Nat.reduceSub, Nat.reduceMul, Int.reduceToNat, List.size_toArray, tyF, MM, bu0, ipure, kpure, tpure, sspure, kset, tset, ksnoc, tsnoc, Kind.av, Twist.sl, Twist.tr, Invar.av, stsize, stget, sttl, stapp, stext, tsspure, Model.sl, Model.tr, f27, f26, f25, f6, f7, f8, f14, f13, f12, f1, f5, m59, m7]
      repeat' (first | omega | rfl | exact i64c (by omega) | exact vic (by omega) | apply And.intro)
  · have hke : k = ks.length := by omega
    subst hke
    simp -dsimp -implicitDefEqProofs (disch := first | omega | (simp only [lenr]; done) | (simp only [lenr]; omega)) only [↓amPre, amAll, ↓reduceIte, reduceCtorEq, Nat.reduceEqDiff, Nat.reduceBEq, Nat.reduceAdd, Nat.reduceLeDiff, Nat.reduceSub, Nat.reduceMul, Int.reduceToNat, List.size_toArray, tyF, MM, bu0, ipure, kpure, tpure, sspure, kset, tset, ksnoc, tsnoc, Kind.av, Twist.sl, Twist.tr, Invar.av, stsize, stget, sttl, stapp, stext, tsspure, Model.sl, Model.tr, f14, f13, f12, f1, f5, m59]
    rfl
def permR (ks : List Kind) (s : List Twist) : List Int := if psOk ks s then permOf ks s else []
theorem permOf_le {ks : List Kind} {s : List Twist} (ps : psOk ks s) : (permOf ks s).length ≤ 20 := permL_le ps.1 (Nat.le_refl _)
theorem iPiecesToPerm (ks : List Kind) (s : List Twist) (h1 : ks.length ≤ 1099511627776) (ha : smallT s) : SpecAt Try.prog 32 [ksl ks, tsl s] (.tup [itr (permR ks s), .bl (decide (psOk ks s))]) := by
  refine spec_of_awp (M := MM) (np := 2) (fz := false) mixed Try.func32 rfl rfl (by decide) rfl (Nat.le_refl _) (by decide +kernel) (.inl rfl) (by first | trivial | simp only [sigsOk_nil, sigsOk_some, sigsOk_none, sig_tr, sig_pt, sig_mt, sig_agg, List.map_cons, List.map_nil, sig1_tr, sig1_pt, sig1_v, and_self, true_and, List.length_map, List.length_set]) ?_
  simp -dsimp -implicitDefEqProofs (disch := first | omega | (simp only [lenr]; done) | (simp only [lenr]; omega)) only [↓amPre, amAll, ↓reduceIte, reduceCtorEq, Nat.reduceEqDiff, Nat.reduceBEq, Nat.reduceAdd, Nat.reduceLeDiff, Nat.reduceSub, Nat.reduceMul, Int.reduceToNat, List.size_toArray, tyF, MM, bu0, ipure, kpure, tpure, sspure, kset, tset, ksnoc, tsnoc, Kind.av, Twist.sl, Twist.tr, Invar.av, stsize, stget, sttl, stapp, stext, tsspure, Model.sl, Model.tr]
  refine callP_of (iIsPieceState ks s h1 ha.1 ha.2) ?_
  by_cases pa : psOk ks s
  · have hR : permR ks s = permOf ks s := if_pos pa
    simp -dsimp -implicitDefEqProofs (disch := first | omega | (simp only [lenr]; done) | (simp only [lenr]; omega)) only [↓amPre, amAll, ↓reduceIte, reduceCtorEq, Nat.reduceEqDiff, Nat.reduceBEq, Nat.reduceAdd, Nat.reduceLeDiff, Nat.reduceSub, Nat.reduceMul, Int.reduceToNat, List.size_toArray, tyF, MM, bu0, ipure, kpure, tpure, sspure, kset, tset, ksnoc, tsnoc, Kind.av, Twist.sl, Twist.tr, Invar.av, stsize, stget, sttl, stapp, stext, tsspure, Model.sl, Model.tr, pa]
    refine callP_of (ipiecesToPerm ks s pa) ?_
    simp -dsimp -implicitDefEqProofs (disch := first | omega | (simp only [lenr]; done) | (simp only [lenr]; omega)) only [↓amPre, amAll, ↓reduceIte, reduceCtorEq, Nat.reduceEqDiff, Nat.reduceBEq, Nat.reduceAdd, Nat.reduceLeDiff, Nat.reduceSub, Nat.reduceMul, Int.reduceToNat, List.size_toArray, tyF, MM, bu0, ipure, kpure, tpure, sspure, kset, tset, ksnoc, tsnoc, Kind.av, Twist.sl, Twist.tr, Invar.av, stsize, stget, sttl, stapp, stext, tsspure, Model.sl, Model.tr, hR, pa]
  · have hR : permR ks s = [] := if_neg pa
    simp -dsimp -implicitDefEqProofs (disch := first | omega | (simp only [lenr]; done) | (simp only [lenr]; omega)) only [↓amPre, amAll, ↓reduceIte, reduceCtorEq, Nat.reduceEqDiff, Nat.reduceBEq, Nat.reduceAdd, Nat.reduceLeDiff, Nat.reduceSub, Nat.reduceMul, Int.reduceToNat, List.size_toArray, tyF, MM, bu0, ipure, kpure, tpure, sspure, kset, tset, ksnoc, tsnoc, Kind.av, Twist.sl, Twist.tr, Invar.av, stsize, stget, sttl, stapp, stext, tsspure, Model.sl, Model.tr, pa, hR]
end Go.AM
set_option maxRecDepth 8000
namespace Go.AM
open Go.Proofs
def sumI : List Int → Int
  | [] => 0
  | x :: r => x + sumI r
def twS (k : Kind) (t : Twist) : Int := (sumI t.by').tmod k.o
def twR (ks : List Kind) (s : List Twist) (n : Int) : Int := if psOk ks s ∧ 0 ≤ n ∧ n < ks.length then twS (ks.getD n.toNat default) (s.getD n.toNat default) else -1
end Go.AM
namespace Go.AM
/-! cycles, plainly -/
def itN (f : Nat → Nat) : Nat → Nat → Nat
  | 0, x => x
  | k + 1, x => f (itN f k x)
structure PermF (n : Nat) (f : Nat → Nat) : Prop where
  lt : ∀ x, x < n → f x < n
  inj : ∀ x y, x < n → y < n → f x = f y → x = y
section
variable {n : Nat} {f : Nat → Nat}
def perN (n : Nat) (f : Nat → Nat) (x : Nat) : Nat := ((List.range n).find? fun k => itN f (k + 1) x == x).getD 0 + 1
def orbN (n : Nat) (f : Nat → Nat) (x : Nat) : List Nat := (List.range (perN n f x)).map fun i => itN f i x
def minN (n : Nat) (f : Nat → Nat) (x : Nat) : Bool := (orbN n f x).all fun y => decide (x ≤ y)
def cycN (n : Nat) (f : Nat → Nat) : List (List Nat) := ((List.range n).filter (minN n f)).map (orbN n f)
end
def fOf (p : List Int) : Nat → Nat := fun x => (p.getD x 0).toNat
def orbI (p : List Int) (x : Nat) : List Int := (orbN p.length (fOf p) x).map fun (y : Nat) => (y : Int)
def minI (p : List Int) (x : Nat) : Bool := minN p.length (fOf p) x
def cycI (p : List Int) : List (List Int) := ((List.range p.length).filter (minI p)).map (orbI p)
def sgnI (p : List Int) : Int := if (p.length - (cycI p).length) % 2 = 1 then -1 else 1
instance : Thing Bool := ⟨⟩
def seenB (p : List Int) (i y : Nat) : Bool := (List.range i).any fun z => decide (y ∈ orbN p.length (fOf p) z)
def seenJ (p : List Int) (i j : Nat) : List Bool := (List.range p.length).map fun y => seenB p i y || decide (y ∈ (orbN p.length (fOf p) i).take j)
section
variable {p : List Int} (hp : isPerm p)
include hp
end
end Go.AM
set_option maxRecDepth 8000
namespace Go.AM
open Go.Proofs
def itL (p : List Int) (x k : Nat) : List Int := (List.range k).map fun i => ((itN (fOf p) i x : Nat) : Int)
def cycK (p : List Int) (k : Nat) : List (List Int) := ((List.range k).filter (minI p)).map (orbI p)
def longC (L : List (List Int)) : List (List Int) := L.filter fun l => decide (1 < l.length)
end Go.AM
set_option maxRecDepth 8000
namespace Go.AM
open Go.Proofs
def bitK (set : Int) (k : Nat) : Bool := bitsI .and .i64 (set.fdiv (2 ^ (min k 64))) 1 == 1
def oddS (s : List Twist) (set : Int) : Nat → Nat
  | 0 => 0
  | k + 1 => oddS s set k + if bitK set k = true ∧ sgnI (s.getD k default).to < 0 then 1 else 0
def parS (s : List Twist) (set : Int) : Int := ((oddS s set s.length % 2 : Nat) : Int)
def parR (ks : List Kind) (s : List Twist) (set : Int) : Int := if psOk ks s ∧ 1 ≤ set ∧ set ≤ ((2 ^ ks.length : Nat) : Int) - 1 then parS s set else -1
end Go.AM
set_option maxRecDepth 8000
namespace Go.AM
open Go.Proofs
def invV (ks : List Kind) (s : List Twist) (i : Invar) : Int := if i.k = 1 then twR ks s i.s else if i.k = 2 then parR ks s i.s else -1
end Go.AM
set_option maxRecDepth 8000
namespace Go.AM
open Go.Proofs
instance : Thing UInt8 := ⟨⟩
theorem iisNames (l : List UInt8) (hl : l.length ≤ 1099511627776) : SpecAt Try.prog 172 [.st l] (.bl (decide (namesOk l))) := by
  refine spec_of_awp (M := MM) (np := 1) (fz := true) mixed Try.func172 rfl rfl (by decide) rfl (Nat.le_refl _) (by decide +kernel) (.inr ⟨rfl, rfl⟩) trivial ?_
  simp -dsimp -implicitDefEqProofs (disch := first | omega | (simp only [lenr]; done) | (simp only [lenr]; omega)) only [↓amPre, amAll, ↓reduceIte, reduceCtorEq, Nat.reduceEqDiff, Nat.reduceBEq, Nat.reduceAdd, Nat.reduceLeDiff, Nat.reduceSub, Nat.reduceMul, Int.reduceToNat, List.size_toArray, tyF, MM, bu0, ipure, kpure, tpure, sspure, kset, tset, ksnoc, tsnoc, Kind.av, Twist.sl, Twist.tr, Invar.av, stsize, stget, sttl, stapp, stext, tsspure, Model.sl, Model.tr]
  have fin : ∀ b : Bool, (b = true ↔ namesOk l) → Value.bool b = Value.bool (decide (namesOk l)) := fun b h => bl_eq (by rw [h, decide_eq_true_iff])
  refine awp_loop (fun i st => i ≤ l.length ∧ st.fr 7 = .i64 i ∧ st.fr 6 = .i64 l.length ∧ st.fr 0 = .st l ∧ lettersOk (l.take i)) (l.length) ?_ ?_
  · simp -dsimp -implicitDefEqProofs (disch := first | omega | (simp only [lenr]; done) | (simp only [lenr]; omega)) only [↓amPre, amAll, ↓reduceIte, reduceCtorEq, Nat.reduceEqDiff, Nat.reduceBEq, Nat.reduceAdd, Nat.reduceLeDiff, Nat.reduceSub, Nat.reduceMul, Int.reduceToNat, List.size_toArray, tyF, MM, bu0, ipure, kpure, tpure, sspure, kset, tset, ksnoc, tsnoc, Kind.av, Twist.sl, Twist.tr, Invar.av, stsize, stget, sttl, stapp, stext, tsspure, Model.sl, Model.tr]
    simp [lettersOk]
  rintro i st _ ⟨hi, f7, f6, f0, ei⟩
  by_cases hlt : i < l.length
  · have hmem := mem_getD l i 0 hlt
    have hu := u8lt (l.getD i 0)
    have hts := take_succ_eq l i 0 hlt
    simp -dsimp -implicitDefEqProofs (disch := first | omega | (simp only [lenr]; done) | (simp only [lenr]; omega)) only [↓amPre, amAll, ↓reduceIte, reduceCtorEq, Nat.reduceEqDiff, Nat.reduceBEq, Nat.reduceAdd, Nat.reduceLeDiff, Nat.reduceSub, Nat.reduceMul, Int.reduceToNat, List.size_toArray, tyF, MM, bu0, ipure, kpure, tpure, sspure, kset, tset, ksnoc, tsnoc, Kind.av, Twist.sl, Twist.tr, Invar.av, stsize, stget, sttl, stapp, stext, tsspure, Model.sl, Model.tr, f7, f6, f0]
    refine callP_of (iwithin _ _ _) ?_
    cases w : within ((l.getD i 0).toNat : Int) 65 90 with
    | false =>
      simp -dsimp -implicitDefEqProofs (disch := first | omega | (simp only [lenr]; done) | (simp only [lenr]; omega)) only [↓amPre, amAll, ↓reduceIte, reduceCtorEq, Nat.reduceEqDiff, Nat.reduceBEq, Nat.reduceAdd, Nat.reduceLeDiff, Nat.reduceSub, Nat.reduceMul, Int.reduceToNat, List.size_toArray, tyF, MM, bu0, ipure, kpure, tpure, sspure, kset, tset, ksnoc, tsnoc, Kind.av, Twist.sl, Twist.tr, Invar.av, stsize, stget, sttl, stapp, stext, tsspure, Model.sl, Model.tr, w]
      refine fin _ ?_
      rw [within_not] at w
      simp only [reduceCtorEq, false_iff]
      intro q; have := q.1.1 _ hmem; omega
    | true =>
      rw [within_iff] at w
      simp -dsimp -implicitDefEqProofs (disch := first | omega | (simp only [lenr]; done) | (simp only [lenr]; omega)) only [↓amPre, amAll, ↓reduceIte, reduceCtorEq, Nat.reduceEqDiff, Nat.reduceBEq, Nat.reduceAdd, Nat.reduceLeDiff, Nat.reduceSub, Nat.reduceMul, Int.reduceToNat, List.size_toArray, tyF, MM, bu0, ipure, kpure, tpure, sspure, kset, tset, ksnoc, tsnoc, Kind.av, Twist.sl, Twist.tr, Invar.av, stsize, stget, sttl, stapp, stext, tsspure, Model.sl, Model.tr, f7, f6, f0, within_iff.2 w]
      refine awp_loop (fun k st => k ≤ i ∧ st.fr 17 = .i64 k ∧ st.fr 16 = .i64 i ∧ st.fr 3 = .i64 i ∧ st.fr 7 = .i64 i ∧ st.fr 6 = .i64 l.length ∧ st.fr 0 = .st l ∧ ∀ y ∈ l.take k, y ≠ l.getD i 0) (i) ?_ ?_
      · simp -dsimp -implicitDefEqProofs (disch := first | omega | (simp only [lenr]; done) | (simp only [lenr]; omega)) only [↓amPre, amAll, ↓reduceIte, reduceCtorEq, Nat.reduceEqDiff, Nat.reduceBEq, Nat.reduceAdd, Nat.reduceLeDiff, Nat.reduceSub, Nat.reduceMul, Int.reduceToNat, List.size_toArray, tyF, MM, bu0, ipure, kpure, tpure, sspure, kset, tset, ksnoc, tsnoc, Kind.av, Twist.sl, Twist.tr, Invar.av, stsize, stget, sttl, stapp, stext, tsspure, Model.sl, Model.tr, f7, f6, f0]
        simp
      rintro k st _ ⟨hk, f17, f16, f3, f7, f6, f0, ek⟩
      by_cases hk' : k < i
      · have hmk := mem_take_succ (l := l) (d := 0) (p := fun y => y ≠ l.getD i 0) (show k < l.length by omega)
        cases w2 : decide (l.getD k 0 = l.getD i 0) with
        | true =>
          simp -dsimp -implicitDefEqProofs (disch := first | omega | (simp only [lenr]; done) | (simp only [lenr]; omega)) only [↓amPre, amAll, ↓reduceIte, reduceCtorEq, Nat.reduceEqDiff, Nat.reduceBEq, Nat.reduceAdd, Nat.reduceLeDiff, Nat.reduceSub, Nat.reduceMul, Int.reduceToNat, List.size_toArray, tyF, MM, bu0, ipure, kpure, tpure, sspure, kset, tset, ksnoc, tsnoc, Kind.av, Twist.sl, Twist.tr, Invar.av, stsize, stget, sttl, stapp, stext, tsspure, Model.sl, Model.tr, f17, f16, f3, f7, f6, f0, u8eq, w2]
          refine fin _ ?_
          simp only [reduceCtorEq, false_iff]
          intro q
          simp only [decide_eq_true_eq] at w2
          rw [getD_eq _ _ _ (show k < l.length by omega), getD_eq _ _ _ hlt] at w2
          have := (List.getElem_inj q.1.2).1 w2
          omega
        | false =>
          simp -dsimp -implicitDefEqProofs (disch := first | omega | (simp only [lenr]; done) | (simp only [lenr]; omega)) only [↓amPre, amAll, ↓reduceIte, reduceCtorEq, Nat.reduceEqDiff, Nat.reduceBEq, Nat.reduceAdd, Nat.reduceLeDiff, Nat.reduceSub, Nat.reduceMul, Int.reduceToNat, List.size_toArray, tyF, MM, bu0, ipure, kpure, tpure, sspure, kset, tset, ksnoc, tsnoc, Kind.av, Twist.sl, Twist.tr, Invar.av, stsize, stget, sttl, stapp, stext, tsspure, Model.sl, Model.tr, f17, f16, f3, f7, f6, f0, u8eq, w2]
          simp only [decide_eq_false_iff_not] at w2
          repeat' (first | omega | rfl | exact i64c (by omega) | exact vic (by omega) | exact hmk.2 ⟨ek, w2⟩ | apply And.intro)
      · have hke : k = i := by omega
        subst hke
        simp -dsimp -implicitDefEqProofs (disch := first | omega | (simp only [lenr]; done) | (simp only [lenr]; omega)) only [↓amPre, amAll, ↓reduceIte, reduceCtorEq, Nat.reduceEqDiff, Nat.reduceBEq, Nat.reduceAdd, Nat.reduceLeDiff, Nat.reduceSub, Nat.reduceMul, Int.reduceToNat, List.size_toArray, tyF, MM, bu0, ipure, kpure, tpure, sspure, kset, tset, ksnoc, tsnoc, Kind.av, Twist.sl, Twist.tr, Invar.av, stsize, stget, sttl, stapp, stext, tsspure, Model.sl, Model.tr, f17, f16, f3, f7, f6, f0]
        refine ⟨hlt, hlt, ?_, ?_⟩
        · rw [hts]; intro b hb
          rcases List.mem_append.1 hb with hb | hb
          · exact ei.1 b hb
          · rw [List.mem_singleton.1 hb]; omega
        · rw [hts, List.nodup_append]
          refine ⟨ei.2, by simp, ?_⟩
          intro a ha b hb e
          simp only [List.mem_singleton] at hb
          exact ek a ha (e.trans hb)
  · have hie : i = l.length := by omega
    subst hie
    rw [List.take_length] at ei
    simp -dsimp -implicitDefEqProofs (disch := first | omega | (simp only [lenr]; done) | (simp only [lenr]; omega)) only [↓amPre, amAll, ↓reduceIte, reduceCtorEq, Nat.reduceEqDiff, Nat.reduceBEq, Nat.reduceAdd, Nat.reduceLeDiff, Nat.reduceSub, Nat.reduceMul, Int.reduceToNat, List.size_toArray, tyF, MM, bu0, ipure, kpure, tpure, sspure, kset, tset, ksnoc, tsnoc, Kind.av, Twist.sl, Twist.tr, Invar.av, stsize, stget, sttl, stapp, stext, tsspure, Model.sl, Model.tr, f7, f6, f0]
    refine callP_of (iwithin _ _ _) ?_
    simp -dsimp -implicitDefEqProofs (disch := first | omega | (simp only [lenr]; done) | (simp only [lenr]; omega)) only [↓amPre, amAll, ↓reduceIte, reduceCtorEq, Nat.reduceEqDiff, Nat.reduceBEq, Nat.reduceAdd, Nat.reduceLeDiff, Nat.reduceSub, Nat.reduceMul, Int.reduceToNat, List.size_toArray, tyF, MM, bu0, ipure, kpure, tpure, sspure, kset, tset, ksnoc, tsnoc, Kind.av, Twist.sl, Twist.tr, Invar.av, stsize, stget, sttl, stapp, stext, tsspure, Model.sl, Model.tr]
    refine fin _ ?_
    rw [within_iff]
    exact ⟨fun q => ⟨ei, by omega⟩, fun q => by have := q.2; omega⟩
theorem svalidNames (l : List UInt8) (n : Nat) (hl : l.length ≤ 1099511627776) : SpecAt Try.prog 85 [.st l, .i64 n] (.bl (decide (l.length = n ∧ lettersOk l))) := by
  refine spec_of_awp (M := MM) (np := 2) (fz := true) mixed Try.func85 rfl rfl (by decide) rfl (Nat.le_refl _) (by decide +kernel) (.inr ⟨rfl, rfl⟩) trivial ?_
  simp -dsimp -implicitDefEqProofs (disch := first | omega | (simp only [lenr]; done) | (simp only [lenr]; omega)) only [↓amPre, amAll, ↓reduceIte, reduceCtorEq, Nat.reduceEqDiff, Nat.reduceBEq, Nat.reduceAdd, Nat.reduceLeDiff, Nat.reduceSub, Nat.reduceMul, Int.reduceToNat, List.size_toArray, tyF, MM, bu0, ipure, kpure, tpure, sspure, kset, tset, ksnoc, tsnoc, Kind.av, Twist.sl, Twist.tr, Invar.av, stsize, stget, sttl, stapp, stext, tsspure, Model.sl, Model.tr]
  have fin : ∀ b : Bool, (b = true ↔ (l.length = n ∧ lettersOk l)) → Value.bool b = Value.bool (decide (l.length = n ∧ lettersOk l)) := fun b h => bl_eq (by rw [h, decide_eq_true_iff])
  by_cases hn : (l.length : Int) = n
  case neg =>
    simp -dsimp -implicitDefEqProofs (disch := first | omega | (simp only [lenr]; done) | (simp only [lenr]; omega)) only [↓amPre, amAll, ↓reduceIte, reduceCtorEq, Nat.reduceEqDiff, Nat.reduceBEq, Nat.reduceAdd, Nat.reduceLeDiff, Nat.reduceSub, Nat.reduceMul, Int.reduceToNat, List.size_toArray, tyF, MM, bu0, ipure, kpure, tpure, sspure, kset, tset, ksnoc, tsnoc, Kind.av, Twist.sl, Twist.tr, Invar.av, stsize, stget, sttl, stapp, stext, tsspure, Model.sl, Model.tr, ne_true hn]
    refine fin _ ?_
    simp only [reduceCtorEq, false_iff]
    intro q; have := q.1; omega
  have hn' : l.length = n := by omega
  simp -dsimp -implicitDefEqProofs (disch := first | omega | (simp only [lenr]; done) | (simp only [lenr]; omega)) only [↓amPre, amAll, ↓reduceIte, reduceCtorEq, Nat.reduceEqDiff, Nat.reduceBEq, Nat.reduceAdd, Nat.reduceLeDiff, Nat.reduceSub, Nat.reduceMul, Int.reduceToNat, List.size_toArray, tyF, MM, bu0, ipure, kpure, tpure, sspure, kset, tset, ksnoc, tsnoc, Kind.av, Twist.sl, Twist.tr, Invar.av, stsize, stget, sttl, stapp, stext, tsspure, Model.sl, Model.tr, ne_false hn]
  refine awp_loop (fun i st => i ≤ l.length ∧ st.fr 5 = .i64 i ∧ st.fr 0 = .st l ∧ lettersOk (l.take i)) (l.length) ?_ ?_
  · simp -dsimp -implicitDefEqProofs (disch := first | omega | (simp only [lenr]; done) | (simp only [lenr]; omega)) only [↓amPre, amAll, ↓reduceIte, reduceCtorEq, Nat.reduceEqDiff, Nat.reduceBEq, Nat.reduceAdd, Nat.reduceLeDiff, Nat.reduceSub, Nat.reduceMul, Int.reduceToNat, List.size_toArray, tyF, MM, bu0, ipure, kpure, tpure, sspure, kset, tset, ksnoc, tsnoc, Kind.av, Twist.sl, Twist.tr, Invar.av, stsize, stget, sttl, stapp, stext, tsspure, Model.sl, Model.tr]
    simp [lettersOk]
  rintro i st _ ⟨hi, f5, f0, ei⟩
  by_cases hlt : i < l.length
  · have hmem := mem_getD l i 0 hlt
    have hu := u8lt (l.getD i 0)
    have hts := take_succ_eq l i 0 hlt
    by_cases w1 : ((l.getD i 0).toNat : Int) < 65
    · simp -dsimp -implicitDefEqProofs (disch := first | omega | (simp only [lenr]; done) | (simp only [lenr]; omega)) only [↓amPre, amAll, ↓reduceIte, reduceCtorEq, Nat.reduceEqDiff, Nat.reduceBEq, Nat.reduceAdd, Nat.reduceLeDiff, Nat.reduceSub, Nat.reduceMul, Int.reduceToNat, List.size_toArray, tyF, MM, bu0, ipure, kpure, tpure, sspure, kset, tset, ksnoc, tsnoc, Kind.av, Twist.sl, Twist.tr, Invar.av, stsize, stget, sttl, stapp, stext, tsspure, Model.sl, Model.tr, f5, f0, lt_true w1]
      refine fin _ ?_
      simp only [reduceCtorEq, false_iff]
      intro q; have := q.2.1 _ hmem; omega
    by_cases w2 : (90 : Int) < ((l.getD i 0).toNat : Int)
    · simp -dsimp -implicitDefEqProofs (disch := first | omega | (simp only [lenr]; done) | (simp only [lenr]; omega)) only [↓amPre, amAll, ↓reduceIte, reduceCtorEq, Nat.reduceEqDiff, Nat.reduceBEq, Nat.reduceAdd, Nat.reduceLeDiff, Nat.reduceSub, Nat.reduceMul, Int.reduceToNat, List.size_toArray, tyF, MM, bu0, ipure, kpure, tpure, sspure, kset, tset, ksnoc, tsnoc, Kind.av, Twist.sl, Twist.tr, Invar.av, stsize, stget, sttl, stapp, stext, tsspure, Model.sl, Model.tr, f5, f0, lt_false (Int.not_lt.1 w1), lt_true w2]
      refine fin _ ?_
      simp only [reduceCtorEq, false_iff]
      intro q; have := q.2.1 _ hmem; omega
    simp -dsimp -implicitDefEqProofs (disch := first | omega | (simp only [lenr]; done) | (simp only [lenr]; omega)) only [↓amPre, amAll, ↓reduceIte, reduceCtorEq, Nat.reduceEqDiff, Nat.reduceBEq, Nat.reduceAdd, Nat.reduceLeDiff, Nat.reduceSub, Nat.reduceMul, Int.reduceToNat, List.size_toArray, tyF, MM, bu0, ipure, kpure, tpure, sspure, kset, tset, ksnoc, tsnoc, Kind.av, Twist.sl, Twist.tr, Invar.av, stsize, stget, sttl, stapp, stext, tsspure, Model.sl, Model.tr, f5, f0, lt_false (Int.not_lt.1 w1), lt_false (Int.not_lt.1 w2)]
    refine awp_loop (fun k st => k ≤ i ∧ st.fr 6 = .i64 k ∧ st.fr 5 = .i64 i ∧ st.fr 0 = .st l ∧ ∀ y ∈ l.take k, y ≠ l.getD i 0) (i) ?_ ?_
    · simp -dsimp -implicitDefEqProofs (disch := first | omega | (simp only [lenr]; done) | (simp only [lenr]; omega)) only [↓amPre, amAll, ↓reduceIte, reduceCtorEq, Nat.reduceEqDiff, Nat.reduceBEq, Nat.reduceAdd, Nat.reduceLeDiff, Nat.reduceSub, Nat.reduceMul, Int.reduceToNat, List.size_toArray, tyF, MM, bu0, ipure, kpure, tpure, sspure, kset, tset, ksnoc, tsnoc, Kind.av, Twist.sl, Twist.tr, Invar.av, stsize, stget, sttl, stapp, stext, tsspure, Model.sl, Model.tr, f5, f0]
      simp
    rintro k st _ ⟨hk, f6, f5, f0, ek⟩
    by_cases hk' : k < i
    · have hmk := mem_take_succ (l := l) (d := 0) (p := fun y => y ≠ l.getD i 0) (show k < l.length by omega)
      cases w2 : decide (l.getD k 0 = l.getD i 0) with
      | true =>
        simp -dsimp -implicitDefEqProofs (disch := first | omega | (simp only [lenr]; done) | (simp only [lenr]; omega)) only [↓amPre, amAll, ↓reduceIte, reduceCtorEq, Nat.reduceEqDiff, Nat.reduceBEq, Nat.reduceAdd, Nat.reduceLeDiff, Nat.reduceSub, Nat.reduceMul, Int.reduceToNat, List.size_toArray, tyF, MM, bu0, ipure, kpure, tpure, sspure, kset, tset, ksnoc, tsnoc, Kind.av, Twist.sl, Twist.tr, Invar.av, stsize, stget, sttl, stapp, stext, tsspure, Model.sl, Model.tr, f6, f5, f0, u8eq, w2]
        refine fin _ ?_
        simp only [reduceCtorEq, false_iff]
        intro q
        simp only [decide_eq_true_eq] at w2
        rw [getD_eq _ _ _ (show k < l.length by omega), getD_eq _ _ _ hlt] at w2
        have := (List.getElem_inj q.2.2).1 w2
        omega
      | false =>
        simp -dsimp -implicitDefEqProofs (disch := first | omega | (simp only [lenr]; done) | (simp only [lenr]; omega)) only [↓amPre, amAll, ↓reduceIte, reduceCtorEq, Nat.reduceEqDiff, Nat.reduceBEq, Nat.reduceAdd, Nat.reduceLeDiff, Nat.reduceSub, Nat.reduceMul, Int.reduceToNat, List.size_toArray, tyF, MM, bu0, ipure, kpure, tpure, sspure, kset, tset, ksnoc, tsnoc, Kind.av, Twist.sl, Twist.tr, Invar.av, stsize, stget, sttl, stapp, stext, tsspure, Model.sl, Model.tr, f6, f5, f0, u8eq, w2]
        simp only [decide_eq_false_iff_not] at w2
        repeat' (first | omega | rfl | exact i64c (by omega) | exact vic (by omega) | exact hmk.2 ⟨ek, w2⟩ | apply And.intro)
    · have hke : k = i := by omega
      subst hke
      simp -dsimp -implicitDefEqProofs (disch := first | omega | (simp only [lenr]; done) | (simp only [lenr]; omega)) only [↓amPre, amAll, ↓reduceIte, reduceCtorEq, Nat.reduceEqDiff, Nat.reduceBEq, Nat.reduceAdd, Nat.reduceLeDiff, Nat.reduceSub, Nat.reduceMul, Int.reduceToNat, List.size_toArray, tyF, MM, bu0, ipure, kpure, tpure, sspure, kset, tset, ksnoc, tsnoc, Kind.av, Twist.sl, Twist.tr, Invar.av, stsize, stget, sttl, stapp, stext, tsspure, Model.sl, Model.tr, f6, f5, f0]
      refine ⟨hlt, hlt, ?_, ?_⟩
      · rw [hts]; intro b hb
        rcases List.mem_append.1 hb with hb | hb
        · exact ei.1 b hb
        · rw [List.mem_singleton.1 hb]; omega
      · rw [hts, List.nodup_append]
        refine ⟨ei.2, by simp, ?_⟩
        intro a ha b hb e
        simp only [List.mem_singleton] at hb
        exact ek a ha (e.trans hb)
  · have hie : i = l.length := by omega
    subst hie
    rw [List.take_length] at ei
    simp -dsimp -implicitDefEqProofs (disch := first | omega | (simp only [lenr]; done) | (simp only [lenr]; omega)) only [↓amPre, amAll, ↓reduceIte, reduceCtorEq, Nat.reduceEqDiff, Nat.reduceBEq, Nat.reduceAdd, Nat.reduceLeDiff, Nat.reduceSub, Nat.reduceMul, Int.reduceToNat, List.size_toArray, tyF, MM, bu0, ipure, kpure, tpure, sspure, kset, tset, ksnoc, tsnoc, Kind.av, Twist.sl, Twist.tr, Invar.av, stsize, stget, sttl, stapp, stext, tsspure, Model.sl, Model.tr, f5, f0]
    refine fin _ ?_
    simp only [true_iff]
    exact ⟨hn', ei⟩
end Go.AM
namespace Go.AM
/-! sizes of moves -/
def sizeLL (l : List (List Twist)) : Nat := match l with | [] => 0 | a :: r => 1 + sizeL a + sizeLL r
end Go.AM
set_option maxRecDepth 8000
namespace Go.AM
open Go.Proofs
instance : Thing (List Twist) := ⟨⟩
abbrev smallTS (l : List (List Twist)) : Prop := l.length ≤ 1099511627776 ∧ ∀ s ∈ l, smallT s
abbrev wfTS (l : List (List Twist)) : Prop := l.length ≤ 9223372036854775807 ∧ ∀ s ∈ l, wfT s
def Model.size (m : Model) : Nat := m.ks.length + m.nm.length + sizeLL m.mv
abbrev wfM (m : Model) : Prop := m.ks.length ≤ 9223372036854775807 ∧ m.nm.length ≤ 9223372036854775807 ∧ wfTS m.mv
abbrev smallM (m : Model) : Prop := m.ks.length ≤ 1099511627776 ∧ m.nm.length ≤ 1099511627776 ∧ smallTS m.mv
end Go.AM
set_option maxRecDepth 8000
namespace Go.AM
open Go.Proofs
def fidxG {α : Type} (pr : α → Bool) (l : List α) : Int := match l.findIdx? pr with | some i => i | none => -1
theorem fidxG_nonneg {α : Type} (pr : α → Bool) (l : List α) : 0 ≤ fidxG pr l ↔ l.any pr = true := by
  unfold fidxG
  split
  · rename_i i e
    rw [List.findIdx?_eq_some_iff_getElem] at e
    obtain ⟨hi, h1, _⟩ := e
    simp only [List.any_eq_true]
    exact ⟨fun _ => ⟨_, List.getElem_mem hi, h1⟩, fun _ => by omega⟩
  · rename_i e
    rw [List.findIdx?_eq_none_iff] at e
    simp only [List.any_eq_true]
    exact ⟨fun q => by omega, fun ⟨x, hx, hp⟩ => by rw [e x hx] at hp; cases hp⟩
theorem fidxG_at {α : Type} (pr : α → Bool) (l : List α) (d : α) (k : Nat) (hk : k < l.length) (h1 : ∀ x ∈ l.take k, pr x = false) (h2 : pr (l.getD k d) = true) : fidxG pr l = k := by
  have : l.findIdx? pr = some k := by
    rw [List.findIdx?_eq_some_iff_getElem]
    refine ⟨hk, by rw [← getD_eq l k d hk]; exact h2, fun j hj => ?_⟩
    have := h1 (l[j]) (by rw [List.mem_take_iff_getElem]; exact ⟨j, by omega, rfl⟩)
    simpa using this
  rw [fidxG, this]
theorem fidxG_none {α : Type} (pr : α → Bool) (l : List α) (h : ∀ x ∈ l, pr x = false) : fidxG pr l = -1 := by
  have : l.findIdx? pr = none := by rw [List.findIdx?_eq_none_iff]; exact h
  rw [fidxG, this]
theorem indexFuncT (l : List (List Twist)) (g : FuncId) (caps : List AV) (pr : List Twist → Bool) (hM : MM g = []) (hb : AV.bearsL caps = false) (hv : ∀ mem, AV.views mem caps = caps) (h : ∀ x ∈ l, SpecAt Try.prog g ([tsl x] ++ caps) (.bl (pr x))) (hl : l.length ≤ 1099511627776) :
    SpecAt Try.prog 225 [tssl l, .fn g caps] (.i64 (fidxG pr l)) := by
  unfold MM at hM
  refine spec_of_awp (M := MM) (np := 2) (fz := true) mixed Try.func225 rfl rfl (by decide) rfl (Nat.le_refl _) (by decide +kernel) (.inr ⟨rfl, rfl⟩) trivial ?_
  simp -dsimp -implicitDefEqProofs (disch := first | omega | (simp only [lenr]; done) | (simp only [lenr]; omega)) only [↓amPre, amAll, ↓reduceIte, reduceCtorEq, Nat.reduceEqDiff, Nat.reduceBEq, Nat.reduceAdd, Nat.reduceLeDiff, Nat.reduceSub, Nat.reduceMul, Int.reduceToNat, List.size_toArray, tyF, MM, bu0, ipure, kpure, tpure, sspure, kset, tset, ksnoc, tsnoc, Kind.av, Twist.sl, Twist.tr, Invar.av, stsize, stget, sttl, stapp, stext, tsspure, Model.sl, Model.tr]
  refine awp_loop (fun k st => k ≤ l.length ∧ st.fr 8 = .i64 k ∧ st.fr 7 = .i64 l.length ∧ st.fr 0 = tssl l ∧ st.fr 1 = .fn g caps ∧ ∀ x ∈ l.take k, pr x = false) (l.length) ?_ ?_
  · simp -dsimp -implicitDefEqProofs (disch := first | omega | (simp only [lenr]; done) | (simp only [lenr]; omega)) only [↓amPre, amAll, ↓reduceIte, reduceCtorEq, Nat.reduceEqDiff, Nat.reduceBEq, Nat.reduceAdd, Nat.reduceLeDiff, Nat.reduceSub, Nat.reduceMul, Int.reduceToNat, List.size_toArray, tyF, MM, bu0, ipure, kpure, tpure, sspure, kset, tset, ksnoc, tsnoc, Kind.av, Twist.sl, Twist.tr, Invar.av, stsize, stget, sttl, stapp, stext, tsspure, Model.sl, Model.tr]
    simp
  rintro k st _ ⟨hk, f8, f7, f0, f1, ek⟩
  by_cases hlt : k < l.length
  · have hmem := mem_getD l k default hlt
    simp -dsimp -implicitDefEqProofs (disch := first | omega | (simp only [lenr]; done) | (simp only [lenr]; omega)) only [↓amPre, amAll, ↓reduceIte, reduceCtorEq, Nat.reduceEqDiff, Nat.reduceBEq, Nat.reduceAdd, Nat.reduceLeDiff, Nat.reduceSub, Nat.reduceMul, Int.reduceToNat, List.size_toArray, tyF, MM, bu0, ipure, kpure, tpure, sspure, kset, tset, ksnoc, tsnoc, Kind.av, Twist.sl, Twist.tr, Invar.av, stsize, stget, sttl, stapp, stext, tsspure, Model.sl, Model.tr, f8, f7, f0, f1, hM, hb, hv]
    refine callP_of (h _ hmem) ?_
    cases w : pr (l.getD k default) with
    | true =>
      simp -dsimp -implicitDefEqProofs (disch := first | omega | (simp only [lenr]; done) | (simp only [lenr]; omega)) only [↓amPre, amAll, ↓reduceIte, reduceCtorEq, Nat.reduceEqDiff, Nat.reduceBEq, Nat.reduceAdd, Nat.reduceLeDiff, Nat.reduceSub, Nat.reduceMul, Int.reduceToNat, List.size_toArray, tyF, MM, bu0, ipure, kpure, tpure, sspure, kset, tset, ksnoc, tsnoc, Kind.av, Twist.sl, Twist.tr, Invar.av, stsize, stget, sttl, stapp, stext, tsspure, Model.sl, Model.tr, f8, f7, f0, f1, w]
      rw [fidxG_at pr l default k hlt ek w]
    | false =>
      simp -dsimp -implicitDefEqProofs (disch := first | omega | (simp only [lenr]; done) | (simp only [lenr]; omega)) only [↓amPre, amAll, ↓reduceIte, reduceCtorEq, Nat.reduceEqDiff, Nat.reduceBEq, Nat.reduceAdd, Nat.reduceLeDiff, Nat.reduceSub, Nat.reduceMul, Int.reduceToNat, List.size_toArray, tyF, MM, bu0, ipure, kpure, tpure, sspure, kset, tset, ksnoc, tsnoc, Kind.av, Twist.sl, Twist.tr, Invar.av, stsize, stget, sttl, stapp, stext, tsspure, Model.sl, Model.tr, f8, f7, f0, f1, w]
      repeat' (first | omega | rfl | exact i64c (by omega) | exact vic (by omega) | exact (mem_take_succ (d := default) hlt).2 ⟨ek, w⟩ | apply And.intro)
  · have hke : k = l.length := by omega
    subst hke
    rw [List.take_length] at ek
    simp -dsimp -implicitDefEqProofs (disch := first | omega | (simp only [lenr]; done) | (simp only [lenr]; omega)) only [↓amPre, amAll, ↓reduceIte, reduceCtorEq, Nat.reduceEqDiff, Nat.reduceBEq, Nat.reduceAdd, Nat.reduceLeDiff, Nat.reduceSub, Nat.reduceMul, Int.reduceToNat, List.size_toArray, tyF, MM, bu0, ipure, kpure, tpure, sspure, kset, tset, ksnoc, tsnoc, Kind.av, Twist.sl, Twist.tr, Invar.av, stsize, stget, sttl, stapp, stext, tsspure, Model.sl, Model.tr, f8, f7, f0, f1]
    rw [fidxG_none pr l ek]
theorem containsFuncT (l : List (List Twist)) (g : FuncId) (caps : List AV) (pr : List Twist → Bool) (hM : MM g = []) (hb : AV.bearsL caps = false) (hv : ∀ mem, AV.views mem caps = caps) (h : ∀ x ∈ l, SpecAt Try.prog g ([tsl x] ++ caps) (.bl (pr x))) (hl : l.length ≤ 1099511627776) :
    SpecAt Try.prog 173 [tssl l, .fn g caps] (.bl (l.any pr)) := by
  refine spec_of_awp (M := MM) (np := 2) (fz := true) mixed Try.func173 rfl rfl (by decide) rfl (Nat.le_refl _) (by decide +kernel) (.inr ⟨rfl, rfl⟩) trivial ?_
  simp -dsimp -implicitDefEqProofs (disch := first | omega | (simp only [lenr]; done) | (simp only [lenr]; omega)) only [↓amPre, amAll, ↓reduceIte, reduceCtorEq, Nat.reduceEqDiff, Nat.reduceBEq, Nat.reduceAdd, Nat.reduceLeDiff, Nat.reduceSub, Nat.reduceMul, Int.reduceToNat, List.size_toArray, tyF, MM, bu0, ipure, kpure, tpure, sspure, kset, tset, ksnoc, tsnoc, Kind.av, Twist.sl, Twist.tr, Invar.av, stsize, stget, sttl, stapp, stext, tsspure, Model.sl, Model.tr, hb, hv]
  refine callP_of (indexFuncT l g caps pr hM hb hv h hl) ?_
  simp -dsimp -implicitDefEqProofs (disch := first | omega | (simp only [lenr]; done) | (simp only [lenr]; omega)) only [↓amPre, amAll, ↓reduceIte, reduceCtorEq, Nat.reduceEqDiff, Nat.reduceBEq, Nat.reduceAdd, Nat.reduceLeDiff, Nat.reduceSub, Nat.reduceMul, Int.reduceToNat, List.size_toArray, tyF, MM, bu0, ipure, kpure, tpure, sspure, kset, tset, ksnoc, tsnoc, Kind.av, Twist.sl, Twist.tr, Invar.av, stsize, stget, sttl, stapp, stext, tsspure, Model.sl, Model.tr]
  refine bl_eq ?_
  simp only [decide_eq_true_eq, fidxG_nonneg]
theorem iIsValidPM1 (s : List Twist) (m : Model) (h1 : m.ks.length ≤ 1099511627776) (hs : smallT s) : SpecAt Try.prog 174 [tsl s, .ep [ksl m.ks, .st m.nm, tssl m.mv]] (.bl (!decide (psOk m.ks s))) := by
  refine spec_of_awp (M := MM) (np := 2) (fz := true) mixed Try.func174 rfl rfl (by decide) rfl (Nat.le_refl _) (by decide +kernel) (.inr ⟨rfl, rfl⟩) trivial ?_
  simp -dsimp -implicitDefEqProofs (disch := first | omega | (simp only [lenr]; done) | (simp only [lenr]; omega)) only [↓amPre, amAll, ↓reduceIte, reduceCtorEq, Nat.reduceEqDiff, Nat.reduceBEq, Nat.reduceAdd, Nat.reduceLeDiff, Nat.reduceSub, Nat.reduceMul, Int.reduceToNat, List.size_toArray, tyF, MM, bu0, ipure, kpure, tpure, sspure, kset, tset, ksnoc, tsnoc, Kind.av, Twist.sl, Twist.tr, Invar.av, stsize, stget, sttl, stapp, stext, tsspure, Model.sl, Model.tr]
  refine callP_of (iIsPieceState m.ks s h1 hs.1 hs.2) ?_
  simp -dsimp -implicitDefEqProofs (disch := first | omega | (simp only [lenr]; done) | (simp only [lenr]; omega)) only [↓amPre, amAll, ↓reduceIte, reduceCtorEq, Nat.reduceEqDiff, Nat.reduceBEq, Nat.reduceAdd, Nat.reduceLeDiff, Nat.reduceSub, Nat.reduceMul, Int.reduceToNat, List.size_toArray, tyF, MM, bu0, ipure, kpure, tpure, sspure, kset, tset, ksnoc, tsnoc, Kind.av, Twist.sl, Twist.tr, Invar.av, stsize, stget, sttl, stapp, stext, tsspure, Model.sl, Model.tr]
theorem iIsValidPieceModel (m : Model) (h : smallM m) : SpecAt Try.prog 80 [m.sl] (.bl (decide (modelOk m))) := by
  have h2 := h.2.1
  have h3 := h.2.2.1
  refine spec_of_awp (M := MM) (np := 1) (fz := true) mixed Try.func80 rfl rfl (by decide) rfl (Nat.le_refl _) (by decide +kernel) (.inr ⟨rfl, rfl⟩) trivial ?_
  have fin : ∀ b : Bool, (b = true ↔ modelOk m) → Value.bool b = Value.bool (decide (modelOk m)) := fun b h => bl_eq (by rw [h, decide_eq_true_iff])
  simp -dsimp -implicitDefEqProofs (disch := first | omega | (simp only [lenr]; done) | (simp only [lenr]; omega)) only [↓amPre, amAll, ↓reduceIte, reduceCtorEq, Nat.reduceEqDiff, Nat.reduceBEq, Nat.reduceAdd, Nat.reduceLeDiff, Nat.reduceSub, Nat.reduceMul, Int.reduceToNat, List.size_toArray, tyF, MM, bu0, ipure, kpure, tpure, sspure, kset, tset, ksnoc, tsnoc, Kind.av, Twist.sl, Twist.tr, Invar.av, stsize, stget, sttl, stapp, stext, tsspure, Model.sl, Model.tr]
  refine callP_of (iAreValidKinds m.ks h.1) ?_
  by_cases c1 : kindsOk m.ks
  case neg =>
    simp -dsimp -implicitDefEqProofs (disch := first | omega | (simp only [lenr]; done) | (simp only [lenr]; omega)) only [↓amPre, amAll, ↓reduceIte, reduceCtorEq, Nat.reduceEqDiff, Nat.reduceBEq, Nat.reduceAdd, Nat.reduceLeDiff, Nat.reduceSub, Nat.reduceMul, Int.reduceToNat, List.size_toArray, tyF, MM, bu0, ipure, kpure, tpure, sspure, kset, tset, ksnoc, tsnoc, Kind.av, Twist.sl, Twist.tr, Invar.av, stsize, stget, sttl, stapp, stext, tsspure, Model.sl, Model.tr, c1]
    refine fin _ ?_
    simp only [modelOk, c1, false_and, reduceCtorEq]
  simp -dsimp -implicitDefEqProofs (disch := first | omega | (simp only [lenr]; done) | (simp only [lenr]; omega)) only [↓amPre, amAll, ↓reduceIte, reduceCtorEq, Nat.reduceEqDiff, Nat.reduceBEq, Nat.reduceAdd, Nat.reduceLeDiff, Nat.reduceSub, Nat.reduceMul, Int.reduceToNat, List.size_toArray, tyF, MM, bu0, ipure, kpure, tpure, sspure, kset, tset, ksnoc, tsnoc, Kind.av, Twist.sl, Twist.tr, Invar.av, stsize, stget, sttl, stapp, stext, tsspure, Model.sl, Model.tr, c1]
  refine callP_of (iisNames m.nm h.2.1) ?_
  by_cases c2 : namesOk m.nm
  case neg =>
    simp -dsimp -implicitDefEqProofs (disch := first | omega | (simp only [lenr]; done) | (simp only [lenr]; omega)) only [↓amPre, amAll, ↓reduceIte, reduceCtorEq, Nat.reduceEqDiff, Nat.reduceBEq, Nat.reduceAdd, Nat.reduceLeDiff, Nat.reduceSub, Nat.reduceMul, Int.reduceToNat, List.size_toArray, tyF, MM, bu0, ipure, kpure, tpure, sspure, kset, tset, ksnoc, tsnoc, Kind.av, Twist.sl, Twist.tr, Invar.av, stsize, stget, sttl, stapp, stext, tsspure, Model.sl, Model.tr, c1, c2]
    refine fin _ ?_
    simp only [modelOk, c2, false_and, and_false, reduceCtorEq]
  by_cases c3 : (m.nm.length : Int) = m.mv.length
  case neg =>
    simp -dsimp -implicitDefEqProofs (disch := first | omega | (simp only [lenr]; done) | (simp only [lenr]; omega)) only [↓amPre, amAll, ↓reduceIte, reduceCtorEq, Nat.reduceEqDiff, Nat.reduceBEq, Nat.reduceAdd, Nat.reduceLeDiff, Nat.reduceSub, Nat.reduceMul, Int.reduceToNat, List.size_toArray, tyF, MM, bu0, ipure, kpure, tpure, sspure, kset, tset, ksnoc, tsnoc, Kind.av, Twist.sl, Twist.tr, Invar.av, stsize, stget, sttl, stapp, stext, tsspure, Model.sl, Model.tr, c1, c2, eq_false c3]
    refine fin _ ?_
    simp only [reduceCtorEq, false_iff]
    intro q; have := q.2.2.1; omega
  simp -dsimp -implicitDefEqProofs (disch := first | omega | (simp only [lenr]; done) | (simp only [lenr]; omega)) only [↓amPre, amAll, ↓reduceIte, reduceCtorEq, Nat.reduceEqDiff, Nat.reduceBEq, Nat.reduceAdd, Nat.reduceLeDiff, Nat.reduceSub, Nat.reduceMul, Int.reduceToNat, List.size_toArray, tyF, MM, bu0, ipure, kpure, tpure, sspure, kset, tset, ksnoc, tsnoc, Kind.av, Twist.sl, Twist.tr, Invar.av, stsize, stget, sttl, stapp, stext, tsspure, Model.sl, Model.tr, c1, c2, eq_true c3]
  refine callP_of (containsFuncT m.mv _ _ (fun s => !decide (psOk m.ks s)) rfl rfl (fun _ => rfl) (fun s hs => iIsValidPM1 s m h.1 (h.2.2.2 s hs)) h3) ?_
  simp -dsimp -implicitDefEqProofs (disch := first | omega | (simp only [lenr]; done) | (simp only [lenr]; omega)) only [↓amPre, amAll, ↓reduceIte, reduceCtorEq, Nat.reduceEqDiff, Nat.reduceBEq, Nat.reduceAdd, Nat.reduceLeDiff, Nat.reduceSub, Nat.reduceMul, Int.reduceToNat, List.size_toArray, tyF, MM, bu0, ipure, kpure, tpure, sspure, kset, tset, ksnoc, tsnoc, Kind.av, Twist.sl, Twist.tr, Invar.av, stsize, stget, sttl, stapp, stext, tsspure, Model.sl, Model.tr, c1, c2, eq_true c3]
  refine fin _ ?_
  have c3' : m.nm.length = m.mv.length := by omega
  simp only [Bool.not_eq_true', List.any_eq_false, Bool.not_eq_true, Bool.not_eq_false', decide_eq_false_iff_not, Decidable.not_not, modelOk, c1, c2, c3', true_and]
theorem sIsValidPieceModel (m : Model) (h : smallM m) : SpecAt Try.prog 16 [m.sl] (.bl (decide (modelOk m))) := by
  have h2 := h.2.1
  have h3 := h.2.2.1
  refine spec_of_awp (M := MM) (np := 1) (fz := true) mixed Try.func16 rfl rfl (by decide) rfl (Nat.le_refl _) (by decide +kernel) (.inr ⟨rfl, rfl⟩) trivial ?_
  have fin : ∀ b : Bool, (b = true ↔ modelOk m) → Value.bool b = Value.bool (decide (modelOk m)) := fun b h => bl_eq (by rw [h, decide_eq_true_iff])
  simp -dsimp -implicitDefEqProofs (disch := first | omega | (simp only [lenr]; done) | (simp only [lenr]; omega)) only [↓amPre, amAll, ↓reduceIte, reduceCtorEq, Nat.reduceEqDiff, Nat.reduceBEq, Nat.reduceAdd, Nat.reduceLeDiff, Nat.reduceSub, Nat.reduceMul, Int.reduceToNat, List.size_toArray, tyF, MM, bu0, ipure, kpure, tpure, sspure, kset, tset, ksnoc, tsnoc, Kind.av, Twist.sl, Twist.tr, Invar.av, stsize, stget, sttl, stapp, stext, tsspure, Model.sl, Model.tr]
  refine callP_of (sAreValidKinds m.ks h.1) ?_
  by_cases c1 : kindsOk m.ks
  case neg =>
    simp -dsimp -implicitDefEqProofs (disch := first | omega | (simp only [lenr]; done) | (simp only [lenr]; omega)) only [↓amPre, amAll, ↓reduceIte, reduceCtorEq, Nat.reduceEqDiff, Nat.reduceBEq, Nat.reduceAdd, Nat.reduceLeDiff, Nat.reduceSub, Nat.reduceMul, Int.reduceToNat, List.size_toArray, tyF, MM, bu0, ipure, kpure, tpure, sspure, kset, tset, ksnoc, tsnoc, Kind.av, Twist.sl, Twist.tr, Invar.av, stsize, stget, sttl, stapp, stext, tsspure, Model.sl, Model.tr, c1]
    refine fin _ ?_
    simp only [modelOk, c1, false_and, reduceCtorEq]
  simp -dsimp -implicitDefEqProofs (disch := first | omega | (simp only [lenr]; done) | (simp only [lenr]; omega)) only [↓amPre, amAll, ↓reduceIte, reduceCtorEq, Nat.reduceEqDiff, Nat.reduceBEq, Nat.reduceAdd, Nat.reduceLeDiff, Nat.reduceSub, Nat.reduceMul, Int.reduceToNat, List.size_toArray, tyF, MM, bu0, ipure, kpure, tpure, sspure, kset, tset, ksnoc, tsnoc, Kind.av, Twist.sl, Twist.tr, Invar.av, stsize, stget, sttl, stapp, stext, tsspure, Model.sl, Model.tr, c1]
  refine callP_of (inRange _ _ _) ?_
  by_cases c2 : 1 ≤ (m.mv.length : Int) ∧ (m.mv.length : Int) ≤ 8
  case neg =>
    simp -dsimp -implicitDefEqProofs (disch := first | omega | (simp only [lenr]; done) | (simp only [lenr]; omega)) only [↓amPre, amAll, ↓reduceIte, reduceCtorEq, Nat.reduceEqDiff, Nat.reduceBEq, Nat.reduceAdd, Nat.reduceLeDiff, Nat.reduceSub, Nat.reduceMul, Int.reduceToNat, List.size_toArray, tyF, MM, bu0, ipure, kpure, tpure, sspure, kset, tset, ksnoc, tsnoc, Kind.av, Twist.sl, Twist.tr, Invar.av, stsize, stget, sttl, stapp, stext, tsspure, Model.sl, Model.tr, within_not.2 c2]
    refine fin _ ?_
    simp only [reduceCtorEq, false_iff]
    intro q; have := q.2.1.2; have := q.2.2.1; omega
  simp -dsimp -implicitDefEqProofs (disch := first | omega | (simp only [lenr]; done) | (simp only [lenr]; omega)) only [↓amPre, amAll, ↓reduceIte, reduceCtorEq, Nat.reduceEqDiff, Nat.reduceBEq, Nat.reduceAdd, Nat.reduceLeDiff, Nat.reduceSub, Nat.reduceMul, Int.reduceToNat, List.size_toArray, tyF, MM, bu0, ipure, kpure, tpure, sspure, kset, tset, ksnoc, tsnoc, Kind.av, Twist.sl, Twist.tr, Invar.av, stsize, stget, sttl, stapp, stext, tsspure, Model.sl, Model.tr, within_iff.2 c2]
  refine callP_of (svalidNames m.nm m.mv.length h.2.1) ?_
  by_cases c3 : m.nm.length = m.mv.length ∧ lettersOk m.nm
  case neg =>
    simp -dsimp -implicitDefEqProofs (disch := first | omega | (simp only [lenr]; done) | (simp only [lenr]; omega)) only [↓amPre, amAll, ↓reduceIte, reduceCtorEq, Nat.reduceEqDiff, Nat.reduceBEq, Nat.reduceAdd, Nat.reduceLeDiff, Nat.reduceSub, Nat.reduceMul, Int.reduceToNat, List.size_toArray, tyF, MM, bu0, ipure, kpure, tpure, sspure, kset, tset, ksnoc, tsnoc, Kind.av, Twist.sl, Twist.tr, Invar.av, stsize, stget, sttl, stapp, stext, tsspure, Model.sl, Model.tr, decide_eq_false c3]
    refine fin _ ?_
    simp only [reduceCtorEq, false_iff]
    intro q; exact c3 ⟨q.2.2.1, q.2.1.1⟩
  simp -dsimp -implicitDefEqProofs (disch := first | omega | (simp only [lenr]; done) | (simp only [lenr]; omega)) only [↓amPre, amAll, ↓reduceIte, reduceCtorEq, Nat.reduceEqDiff, Nat.reduceBEq, Nat.reduceAdd, Nat.reduceLeDiff, Nat.reduceSub, Nat.reduceMul, Int.reduceToNat, List.size_toArray, tyF, MM, bu0, ipure, kpure, tpure, sspure, kset, tset, ksnoc, tsnoc, Kind.av, Twist.sl, Twist.tr, Invar.av, stsize, stget, sttl, stapp, stext, tsspure, Model.sl, Model.tr, decide_eq_true c3]
  have hnk : namesOk m.nm := ⟨c3.2, by omega, by omega⟩
  refine awp_loop (fun k st => k ≤ m.mv.length ∧ st.fr 3 = .i64 k ∧ st.fr 1 = .loc 1 [] 0 0 ∧ st.mem 1 = some (.pt 3 (.agg [ksl m.ks, .st m.nm, tssl m.mv])) ∧ ∀ s ∈ m.mv.take k, psOk m.ks s) (m.mv.length) ?_ ?_
  · simp -dsimp -implicitDefEqProofs (disch := first | omega | (simp only [lenr]; done) | (simp only [lenr]; omega)) only [↓amPre, amAll, ↓reduceIte, reduceCtorEq, Nat.reduceEqDiff, Nat.reduceBEq, Nat.reduceAdd, Nat.reduceLeDiff, Nat.reduceSub, Nat.reduceMul, Int.reduceToNat, List.size_toArray, tyF, MM, bu0, ipure, kpure, tpure, sspure, kset, tset, ksnoc, tsnoc, Kind.av, Twist.sl, Twist.tr, Invar.av, stsize, stget, sttl, stapp, stext, tsspure, Model.sl, Model.tr]
    simp
  rintro k st _ ⟨hk, f3, f1, m1, ek⟩
  by_cases hlt : k < m.mv.length
  · have hsm := h.2.2.2 _ (mem_getD m.mv k default hlt)
    simp -dsimp -implicitDefEqProofs (disch := first | omega | (simp only [lenr]; done) | (simp only [lenr]; omega)) only [↓amPre, amAll, ↓reduceIte, reduceCtorEq, Nat.reduceEqDiff, Nat.reduceBEq, Nat.reduceAdd, Nat.reduceLeDiff, Nat.reduceSub, Nat.reduceMul, Int.reduceToNat, List.size_toArray, tyF, MM, bu0, ipure, kpure, tpure, sspure, kset, tset, ksnoc, tsnoc, Kind.av, Twist.sl, Twist.tr, Invar.av, stsize, stget, sttl, stapp, stext, tsspure, Model.sl, Model.tr, f3, f1, m1]
    refine callP_of (sIsPieceState m.ks (m.mv.getD k default) h.1 hsm.1 hsm.2) ?_
    by_cases w : psOk m.ks (m.mv.getD k default)
    · simp -dsimp -implicitDefEqProofs (disch := first | omega | (simp only [lenr]; done) | (simp only [lenr]; omega)) only [↓amPre, amAll, ↓reduceIte, reduceCtorEq, Nat.reduceEqDiff, Nat.reduceBEq, Nat.reduceAdd, Nat.reduceLeDiff, Nat.reduceSub, Nat.reduceMul, Int.reduceToNat, List.size_toArray, tyF, MM, bu0, ipure, kpure, tpure, sspure, kset, tset, ksnoc, tsnoc, Kind.av, Twist.sl, Twist.tr, Invar.av, stsize, stget, sttl, stapp, stext, tsspure, Model.sl, Model.tr, f3, f1, m1, w]
      repeat' (first | omega | rfl | exact i64c (by omega) | exact vic (by omega) | exact (mem_take_succ (d := default) hlt).2 ⟨ek, w⟩ | apply And.intro)
    · simp -dsimp -implicitDefEqProofs (disch := first | omega | (simp only [lenr]; done) | (simp only [lenr]; omega)) only [↓amPre, amAll, ↓reduceIte, reduceCtorEq, Nat.reduceEqDiff, Nat.reduceBEq, Nat.reduceAdd, Nat.reduceLeDiff, Nat.reduceSub, Nat.reduceMul, Int.reduceToNat, List.size_toArray, tyF, MM, bu0, ipure, kpure, tpure, sspure, kset, tset, ksnoc, tsnoc, Kind.av, Twist.sl, Twist.tr, Invar.av, stsize, stget, sttl, stapp, stext, tsspure, Model.sl, Model.tr, w]
      refine fin _ ?_
      simp only [reduceCtorEq, false_iff]
      intro q; exact w (q.2.2.2 _ (mem_getD m.mv k default hlt))
  · have hke : k = m.mv.length := by omega
    subst hke
    rw [List.take_length] at ek
    simp -dsimp -implicitDefEqProofs (disch := first | omega | (simp only [lenr]; done) | (simp only [lenr]; omega)) only [↓amPre, amAll, ↓reduceIte, reduceCtorEq, Nat.reduceEqDiff, Nat.reduceBEq, Nat.reduceAdd, Nat.reduceLeDiff, Nat.reduceSub, Nat.reduceMul, Int.reduceToNat, List.size_toArray, tyF, MM, bu0, ipure, kpure, tpure, sspure, kset, tset, ksnoc, tsnoc, Kind.av, Twist.sl, Twist.tr, Invar.av, stsize, stget, sttl, stapp, stext, tsspure, Model.sl, Model.tr, f3, f1, m1]
    refine fin _ ?_
    simp only [true_iff]
    exact ⟨c1, hnk, c3.1, ek⟩
end Go.AM
namespace Go.AM
def St.nilC2 (st : St) (s z w : Nat) : St := (st.nilC s 0 z w [.nilsl, .nilsl]).nilC s 1 z w [.tr w [], .nilsl]
end Go.AM
namespace Go.AM
/-! lists of invariants -/
abbrev vsl (l : List Invar) : AV := .sl 2 (l.map Invar.av)
abbrev vtr (l : List Invar) : AV := .tr 2 (l.map Invar.av)
theorem vset (l : List Invar) (i : Nat) (a b : Int) : (l.map Invar.av).set i (.agg [.i64 a, .i64 b]) = (l.set i ⟨a, b⟩).map Invar.av := by rw [List.map_set]; rfl
theorem vsnoc (l : List Invar) (a b : Int) : l.map Invar.av ++ [.agg [.i64 a, .i64 b]] = (l ++ [(⟨a, b⟩ : Invar)]).map Invar.av := by simp [Invar.av]
theorem vpure (l : List Invar) : AV.pureL (l.map Invar.av) = true := pureL_map _ (fun _ => rfl) l
def twL (k : Nat) : List Invar := (List.range k).map fun (i : Nat) => ⟨1, (i : Int)⟩
def paL (k : Nat) : List Invar := (List.range k).map fun (i : Nat) => ⟨2, ((i + 1 : Nat) : Int)⟩
end Go.AM
namespace Go.AM
/-! puzzles, plainly -/
def sizeI (l : List (List Int)) : Nat := match l with | [] => 0 | a :: r => 1 + a.length + sizeI r
structure Puzz where
  n : Int
  nm : List UInt8
  mv : List (List Int)
  deriving DecidableEq
def Puzz.sl (p : Puzz) : AV := .agg [.i64 p.n, .st p.nm, ssl p.mv]
def Puzz.tr (p : Puzz) : AV := .agg [.i64 p.n, .st p.nm, sst p.mv]
end Go.AM
set_option maxRecDepth 8000
namespace Go.AM
open Go.Proofs
instance : Thing (List Int) := ⟨⟩
abbrev smallSS (l : List (List Int)) : Prop := l.length ≤ 1099511627776 ∧ ∀ s ∈ l, s.length ≤ 1099511627776
abbrev wfSS (l : List (List Int)) : Prop := l.length ≤ 9223372036854775807 ∧ ∀ s ∈ l, s.length ≤ 9223372036854775807
def Puzz.size (p : Puzz) : Nat := p.nm.length + sizeI p.mv
abbrev wfP (p : Puzz) : Prop := intOk p.n ∧ p.nm.length ≤ 9223372036854775807 ∧ wfSS p.mv
abbrev smallP (p : Puzz) : Prop := intOk p.n ∧ p.nm.length ≤ 1099511627776 ∧ smallSS p.mv
end Go.AM
namespace Go.AM
def moveOk (n : Int) (s : List Int) : Prop := (s.length : Int) = n ∧ isPerm s
instance (n : Int) (s : List Int) : Decidable (moveOk n s) := by unfold moveOk; infer_instance
def genOk (n : Int) (mv : List (List Int)) : Prop := (1 ≤ n ∧ n ≤ 20) ∧ mv.length ≤ 8 ∧ ∀ s ∈ mv, moveOk n s
instance (n : Int) (mv : List (List Int)) : Decidable (genOk n mv) := by unfold genOk; infer_instance
def puzzOk (p : Puzz) : Prop := genOk p.n p.mv ∧ namesOk p.nm ∧ p.nm.length = p.mv.length
instance (p : Puzz) : Decidable (puzzOk p) := by unfold puzzOk; infer_instance
def letOk (n : Int) (x : Int) : Prop := x ≠ 0 ∧ (-8 ≤ x ∧ x ≤ 8) ∧ x ≤ n ∧ -x ≤ n
instance (n x : Int) : Decidable (letOk n x) := by unfold letOk; infer_instance
def wordOk (n : Int) (w : List Int) : Prop := w.length ≤ 200 ∧ ∀ x ∈ w, letOk n x
instance (n : Int) (w : List Int) : Decidable (wordOk n w) := by unfold wordOk; infer_instance
def nameAt (l : List UInt8) (i : Nat) : Prop := (65 ≤ (l.getD i 0).toNat ∧ (l.getD i 0).toNat ≤ 90) ∧ ∀ y ∈ l.take i, y ≠ l.getD i 0
instance (l : List UInt8) (i : Nat) : Decidable (nameAt l i) := by unfold nameAt; infer_instance
theorem letters_take (l : List UInt8) (i : Nat) (h : i < l.length) : lettersOk (l.take (i + 1)) ↔ lettersOk (l.take i) ∧ nameAt l i := by
  rw [take_succ_eq l i 0 h]
  unfold lettersOk nameAt
  rw [List.nodup_append]
  constructor
  · rintro ⟨h1, h2, _, h3⟩
    exact ⟨⟨fun b hb => h1 b (by simp [hb]), h2⟩, h1 _ (by simp), fun y hy => h3 y hy _ (by simp)⟩
  · rintro ⟨⟨h1, h2⟩, h3, h4⟩
    refine ⟨fun b hb => ?_, h2, by simp, fun a ha b hb => ?_⟩
    · rcases List.mem_append.1 hb with hb | hb
      · exact h1 b hb
      · rw [List.mem_singleton.1 hb]; exact h3
    · rw [List.mem_singleton.1 hb]; exact h4 a ha
theorem letters_mono {l : List UInt8} (h : lettersOk l) (i : Nat) : lettersOk (l.take i) :=
  ⟨fun b hb => h.1 b (List.mem_of_mem_take hb), h.2.sublist (List.take_sublist i l)⟩
theorem puzz_nm {p : Puzz} (h : puzzOk p) : 1 ≤ p.mv.length ∧ p.mv.length ≤ 8 := by have := h.2.1.2; have := h.2.2; omega
def sameI (a b : Int) : Prop := a = b ∨ a = -b
instance (a b : Int) : Decidable (sameI a b) := by unfold sameI; infer_instance
def genI (x : Int) : Int := if x < 0 then -x - 1 else x - 1
def runsK (w : List Int) : Nat → List (List Int)
  | 0 => []
  | k + 1 => if 0 < k ∧ sameI (w.getD (k - 1) 0) (w.getD k 0) then (runsK w k).set ((runsK w k).length - 1) ((runsK w k).getD ((runsK w k).length - 1) default ++ [w.getD k 0]) else runsK w k ++ [[w.getD k 0]]
def scrOk (p : Puzz) (w : List Int) : Prop := puzzOk p ∧ wordOk p.mv.length w ∧ (p.mv.length = 1 ∨ ∀ i, 0 < i → i < w.length → ¬ sameI (w.getD (i - 1) 0) (w.getD i 0))
instance (p : Puzz) (w : List Int) : Decidable (scrOk p w) := by
  unfold scrOk
  have : Decidable (∀ i, 0 < i → i < w.length → ¬ sameI (w.getD (i - 1) 0) (w.getD i 0)) := decidable_of_iff (∀ i, i < w.length → 0 < i → ¬ sameI (w.getD (i - 1) 0) (w.getD i 0)) ⟨fun h i a b => h i b a, fun h i a b => h i b a⟩
  infer_instance
end Go.AM
set_option maxRecDepth 8000
namespace Go.AM
open Go.Proofs
theorem sGen (n : Int) (mv : List (List Int)) (hn : intOk n) (h : smallSS mv) : SpecAt Try.prog 96 [.i64 n, ssl mv] (.bl (decide (genOk n mv))) := by
  have h1 := h.1
  unfold intOk at hn
  refine spec_of_awp (M := MM) (np := 2) (fz := true) mixed Try.func96 rfl rfl (by decide) rfl (Nat.le_refl _) (by decide +kernel) (.inr ⟨rfl, rfl⟩) trivial ?_
  have fin : ∀ b : Bool, (b = true ↔ genOk n mv) → Value.bool b = Value.bool (decide (genOk n mv)) := fun b h => bl_eq (by rw [h, decide_eq_true_iff])
  simp -dsimp -implicitDefEqProofs (disch := first | omega | (simp only [lenr]; done) | (simp only [lenr]; omega)) only [↓amPre, amAll, ↓reduceIte, reduceCtorEq, Nat.reduceEqDiff, Nat.reduceBEq, Nat.reduceAdd, Nat.reduceLeDiff, Nat.reduceSub, Nat.reduceMul, Int.reduceToNat, List.size_toArray, tyF, MM, bu0, ipure, kpure, tpure, sspure, kset, tset, ksnoc, tsnoc, Kind.av, Twist.sl, Twist.tr, Invar.av, stsize, stget, sttl, stapp, stext, tsspure, Model.sl, Model.tr, vset, vsnoc, vpure, Puzz.sl, Puzz.tr]
  refine callP_of (inRange _ _ _) ?_
  by_cases c1 : 1 ≤ n ∧ n ≤ 20
  case neg =>
    simp -dsimp -implicitDefEqProofs (disch := first | omega | (simp only [lenr]; done) | (simp only [lenr]; omega)) only [↓amPre, amAll, ↓reduceIte, reduceCtorEq, Nat.reduceEqDiff, Nat.reduceBEq, Nat.reduceAdd, Nat.reduceLeDiff, Nat.reduceSub, Nat.reduceMul, Int.reduceToNat, List.size_toArray, tyF, MM, bu0, ipure, kpure, tpure, sspure, kset, tset, ksnoc, tsnoc, Kind.av, Twist.sl, Twist.tr, Invar.av, stsize, stget, sttl, stapp, stext, tsspure, Model.sl, Model.tr, vset, vsnoc, vpure, Puzz.sl, Puzz.tr, within_not.2 c1]
    refine fin _ ?_
    simp only [reduceCtorEq, false_iff]
    exact fun q => c1 q.1
  by_cases c2 : (8 : Int) < mv.length
  · simp -dsimp -implicitDefEqProofs (disch := first | omega | (simp only [lenr]; done) | (simp only [lenr]; omega)) only [↓amPre, amAll, ↓reduceIte, reduceCtorEq, Nat.reduceEqDiff, Nat.reduceBEq, Nat.reduceAdd, Nat.reduceLeDiff, Nat.reduceSub, Nat.reduceMul, Int.reduceToNat, List.size_toArray, tyF, MM, bu0, ipure, kpure, tpure, sspure, kset, tset, ksnoc, tsnoc, Kind.av, Twist.sl, Twist.tr, Invar.av, stsize, stget, sttl, stapp, stext, tsspure, Model.sl, Model.tr, vset, vsnoc, vpure, Puzz.sl, Puzz.tr, within_iff.2 c1, lt_true c2]
    refine fin _ ?_
    simp only [reduceCtorEq, false_iff]
    intro q; have := q.2.1; omega
  simp -dsimp -implicitDefEqProofs (disch := first | omega | (simp only [lenr]; done) | (simp only [lenr]; omega)) only [↓amPre, amAll, ↓reduceIte, reduceCtorEq, Nat.reduceEqDiff, Nat.reduceBEq, Nat.reduceAdd, Nat.reduceLeDiff, Nat.reduceSub, Nat.reduceMul, Int.reduceToNat, List.size_toArray, tyF, MM, bu0, ipure, kpure, tpure, sspure, kset, tset, ksnoc, tsnoc, Kind.av, Twist.sl, Twist.tr, Invar.av, stsize, stget, sttl, stapp, stext, tsspure, Model.sl, Model.tr, vset, vsnoc, vpure, Puzz.sl, Puzz.tr, within_iff.2 c1, lt_false (Int.not_lt.1 c2)]
  refine awp_loop (fun k st => k ≤ mv.length ∧ st.fr 5 = .i64 k ∧ st.fr 0 = .i64 n ∧ st.fr 1 = ssl mv ∧ ∀ s ∈ mv.take k, moveOk n s) (mv.length) ?_ ?_
  · simp -dsimp -implicitDefEqProofs (disch := first | omega | (simp only [lenr]; done) | (simp only [lenr]; omega)) only [↓amPre, amAll, ↓reduceIte, reduceCtorEq, Nat.reduceEqDiff, Nat.reduceBEq, Nat.reduceAdd, Nat.reduceLeDiff, Nat.reduceSub, Nat.reduceMul, Int.reduceToNat, List.size_toArray, tyF, MM, bu0, ipure, kpure, tpure, sspure, kset, tset, ksnoc, tsnoc, Kind.av, Twist.sl, Twist.tr, Invar.av, stsize, stget, sttl, stapp, stext, tsspure, Model.sl, Model.tr, vset, vsnoc, vpure, Puzz.sl, Puzz.tr]
    simp
  rintro k st _ ⟨hk, f5, f0, f1, ek⟩
  by_cases hlt : k < mv.length
  · have hmem := mem_getD mv k default hlt
    have hsm := h.2 _ hmem
    by_cases w : ((mv.getD k default).length : Int) = n
    case neg =>
      simp -dsimp -implicitDefEqProofs (disch := first | omega | (simp only [lenr]; done) | (simp only [lenr]; omega)) only [↓amPre, amAll, ↓reduceIte, reduceCtorEq, Nat.reduceEqDiff, Nat.reduceBEq, Nat.reduceAdd, Nat.reduceLeDiff, Nat.reduceSub, Nat.reduceMul, Int.reduceToNat, List.size_toArray, tyF, MM, bu0, ipure, kpure, tpure, sspure, kset, tset, ksnoc, tsnoc, Kind.av, Twist.sl, Twist.tr, Invar.av, stsize, stget, sttl, stapp, stext, tsspure, Model.sl, Model.tr, vset, vsnoc, vpure, Puzz.sl, Puzz.tr, f5, f0, f1, ne_true w]
      refine fin _ ?_
      simp only [reduceCtorEq, false_iff]
      exact fun q => w (q.2.2 _ hmem).1
    simp -dsimp -implicitDefEqProofs (disch := first | omega | (simp only [lenr]; done) | (simp only [lenr]; omega)) only [↓amPre, amAll, ↓reduceIte, reduceCtorEq, Nat.reduceEqDiff, Nat.reduceBEq, Nat.reduceAdd, Nat.reduceLeDiff, Nat.reduceSub, Nat.reduceMul, Int.reduceToNat, List.size_toArray, tyF, MM, bu0, ipure, kpure, tpure, sspure, kset, tset, ksnoc, tsnoc, Kind.av, Twist.sl, Twist.tr, Invar.av, stsize, stget, sttl, stapp, stext, tsspure, Model.sl, Model.tr, vset, vsnoc, vpure, Puzz.sl, Puzz.tr, f5, f0, f1, ne_false w]
    refine callP_of (sIsPerm (mv.getD k default) hsm) ?_
    by_cases w2 : isPerm (mv.getD k default)
    · simp -dsimp -implicitDefEqProofs (disch := first | omega | (simp only [lenr]; done) | (simp only [lenr]; omega)) only [↓amPre, amAll, ↓reduceIte, reduceCtorEq, Nat.reduceEqDiff, Nat.reduceBEq, Nat.reduceAdd, Nat.reduceLeDiff, Nat.reduceSub, Nat.reduceMul, Int.reduceToNat, List.size_toArray, tyF, MM, bu0, ipure, kpure, tpure, sspure, kset, tset, ksnoc, tsnoc, Kind.av, Twist.sl, Twist.tr, Invar.av, stsize, stget, sttl, stapp, stext, tsspure, Model.sl, Model.tr, vset, vsnoc, vpure, Puzz.sl, Puzz.tr, f5, f0, f1, w2]
      repeat' (first | omega | rfl | exact i64c (by omega) | exact vic (by omega) | exact (mem_take_succ (d := default) hlt).2 ⟨ek, w, w2⟩ | apply And.intro)
    · simp -dsimp -implicitDefEqProofs (disch := first | omega | (simp only [lenr]; done) | (simp only [lenr]; omega)) only [↓amPre, amAll, ↓reduceIte, reduceCtorEq, Nat.reduceEqDiff, Nat.reduceBEq, Nat.reduceAdd, Nat.reduceLeDiff, Nat.reduceSub, Nat.reduceMul, Int.reduceToNat, List.size_toArray, tyF, MM, bu0, ipure, kpure, tpure, sspure, kset, tset, ksnoc, tsnoc, Kind.av, Twist.sl, Twist.tr, Invar.av, stsize, stget, sttl, stapp, stext, tsspure, Model.sl, Model.tr, vset, vsnoc, vpure, Puzz.sl, Puzz.tr, w2]
      refine fin _ ?_
      simp only [reduceCtorEq, false_iff]
      exact fun q => w2 (q.2.2 _ hmem).2
  · have hke : k = mv.length := by omega
    subst hke
    rw [List.take_length] at ek
    simp -dsimp -implicitDefEqProofs (disch := first | omega | (simp only [lenr]; done) | (simp only [lenr]; omega)) only [↓amPre, amAll, ↓reduceIte, reduceCtorEq, Nat.reduceEqDiff, Nat.reduceBEq, Nat.reduceAdd, Nat.reduceLeDiff, Nat.reduceSub, Nat.reduceMul, Int.reduceToNat, List.size_toArray, tyF, MM, bu0, ipure, kpure, tpure, sspure, kset, tset, ksnoc, tsnoc, Kind.av, Twist.sl, Twist.tr, Invar.av, stsize, stget, sttl, stapp, stext, tsspure, Model.sl, Model.tr, vset, vsnoc, vpure, Puzz.sl, Puzz.tr, f5, f0, f1]
    refine fin _ ?_
    simp only [true_iff]
    exact ⟨c1, by omega, ek⟩
end Go.AM

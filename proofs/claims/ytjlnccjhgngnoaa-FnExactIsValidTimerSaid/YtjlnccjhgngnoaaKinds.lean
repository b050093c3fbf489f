/-
  CONTRACTS of functions of the program: what each computes, by content.
-/
import Derived.Test.YtjlnccjhgngnoaaAMFacts
set_option linter.unusedVariables false
set_option linter.unusedSimpArgs false
namespace Go.AM
open Go.Proofs

structure Kind where
  count : Int
  orient : Int
  deriving DecidableEq
def Kind.cs (k : Kind) : List AV := [.i64 k.count, .i64 k.orient]
def Kind.av (k : Kind) : AV := .agg [.i64 k.count, .i64 k.orient]
def kindsAV (ks : List Kind) : AV := .sl 2 (ks.map Kind.av)
def KindsOk (ks : List Kind) : Prop := ∀ k ∈ ks, intOk k.count ∧ intOk k.orient

def within (x lo hi : Int) : Bool := decide (lo ≤ x) && decide (x ≤ hi)
theorem within_spec (x lo hi : Int) : SpecAt Try.prog 58 [.i64 x, .i64 lo, .i64 hi] (.bl (within x lo hi)) := by
  refine spec_of_awp mixed Try.func58 rfl rfl (by decide) rfl (by decide +kernel) rfl ?_
  simp -dsimp -implicitDefEqProofs (disch := omega) only [↓amPre, amPost, Nat.reduceAdd, Nat.reduceBEq, Nat.reduceEqDiff, Nat.reduceLeDiff, reduceCtorEq, ↓reduceIte, tyF]
  refine ifP_mk ?_ ?_ <;> intro h1
  · simp -dsimp -implicitDefEqProofs (disch := omega) only [↓amPre, amPost, Nat.reduceAdd, Nat.reduceBEq, Nat.reduceEqDiff, Nat.reduceLeDiff, reduceCtorEq, ↓reduceIte, tyF, h1]
    simp [within, h1]
  · simp -dsimp -implicitDefEqProofs (disch := omega) only [↓amPre, amPost, Nat.reduceAdd, Nat.reduceBEq, Nat.reduceEqDiff, Nat.reduceLeDiff, reduceCtorEq, ↓reduceIte, tyF, h1]
    simp [within, h1]
theorem inRange_spec (x lo hi : Int) : SpecAt Try.prog 56 [.i64 x, .i64 lo, .i64 hi] (.bl (within x lo hi)) := by
  refine spec_of_awp mixed Try.func56 rfl rfl (by decide) rfl (by decide +kernel) rfl ?_
  simp -dsimp -implicitDefEqProofs (disch := omega) only [↓amPre, amPost, Nat.reduceAdd, Nat.reduceBEq, Nat.reduceEqDiff, Nat.reduceLeDiff, reduceCtorEq, ↓reduceIte, tyF]
  refine ifP_mk ?_ ?_ <;> intro h1
  · simp -dsimp -implicitDefEqProofs (disch := omega) only [↓amPre, amPost, Nat.reduceAdd, Nat.reduceBEq, Nat.reduceEqDiff, Nat.reduceLeDiff, reduceCtorEq, ↓reduceIte, tyF, h1]
    simp [within, h1]
  · simp -dsimp -implicitDefEqProofs (disch := omega) only [↓amPre, amPost, Nat.reduceAdd, Nat.reduceBEq, Nat.reduceEqDiff, Nat.reduceLeDiff, reduceCtorEq, ↓reduceIte, tyF, h1]
    simp [within, h1]
theorem lengthKind_spec (ks : List Kind) : SpecAt Try.prog 59 [kindsAV ks] (.i64 ks.length) := by
  refine spec_of_awp mixed Try.func59 rfl rfl (by decide) rfl (by decide +kernel) rfl ?_
  simp -dsimp -implicitDefEqProofs (disch := omega) only [↓amPre, amPost, Nat.reduceAdd, Nat.reduceBEq, Nat.reduceEqDiff, Nat.reduceLeDiff, reduceCtorEq, ↓reduceIte, tyF, kindsAV]
theorem toKind_spec (k : Kind) : SpecAt Try.prog 57 [k.av] k.av := by
  refine spec_of_awp mixed Try.func57 rfl rfl (by decide) rfl (by decide +kernel) rfl ?_
  simp -dsimp -implicitDefEqProofs (disch := omega) only [↓amPre, amPost, Nat.reduceAdd, Nat.reduceBEq, Nat.reduceEqDiff, Nat.reduceLeDiff, reduceCtorEq, ↓reduceIte, tyF, Kind.av]
theorem Kind.ext_iff' (a b : Kind) : (a = b) ↔ a.count = b.count ∧ a.orient = b.orient := by
  cases a; cases b; simp
theorem eqKind_spec (a b : Kind) : SpecAt Try.prog 61 [a.av, b.av] (.bl (decide (a = b))) := by
  refine spec_of_awp mixed Try.func61 rfl rfl (by decide) rfl (by decide +kernel) rfl ?_
  simp -dsimp -implicitDefEqProofs (disch := omega) only [↓amPre, amPost, Nat.reduceAdd, Nat.reduceBEq, Nat.reduceEqDiff, Nat.reduceLeDiff, reduceCtorEq, ↓reduceIte, tyF, Kind.av]
  refine ifP_mk ?_ ?_ <;> intro h1
  · simp -dsimp -implicitDefEqProofs (disch := omega) only [↓amPre, amPost, Nat.reduceAdd, Nat.reduceBEq, Nat.reduceEqDiff, Nat.reduceLeDiff, reduceCtorEq, ↓reduceIte, tyF, h1]
    simp at h1; simp [Kind.ext_iff', h1]
  · simp -dsimp -implicitDefEqProofs (disch := omega) only [↓amPre, amPost, Nat.reduceAdd, Nat.reduceBEq, Nat.reduceEqDiff, Nat.reduceLeDiff, reduceCtorEq, ↓reduceIte, tyF, h1]
    refine ifP_mk ?_ ?_ <;> intro h2
    · simp -dsimp -implicitDefEqProofs (disch := omega) only [↓amPre, amPost, Nat.reduceAdd, Nat.reduceBEq, Nat.reduceEqDiff, Nat.reduceLeDiff, reduceCtorEq, ↓reduceIte, tyF, h2]
      simp at h2; simp [Kind.ext_iff', h2]
    · simp -dsimp -implicitDefEqProofs (disch := omega) only [↓amPre, amPost, Nat.reduceAdd, Nat.reduceBEq, Nat.reduceEqDiff, Nat.reduceLeDiff, reduceCtorEq, ↓reduceIte, tyF, h2]
      simp at h1 h2; simp [Kind.ext_iff', h1, h2]
def szAV (n left : Int) : Int := if left < n then -1 else left - n
theorem szKindS_spec (ks : List Kind) (left : Int) (h0 : 0 ≤ left) (h : left ≤ 1048576) (hl : ks.length ≤ 9223372036854775807) : SpecAt Try.prog 19 [kindsAV ks, .i64 left] (.i64 (szAV ks.length left)) := by
  refine spec_of_awp mixed Try.func19 rfl rfl (by decide) rfl (by decide +kernel) rfl ?_
  simp -dsimp -implicitDefEqProofs (disch := omega) only [↓amPre, amPost, Nat.reduceAdd, Nat.reduceBEq, Nat.reduceEqDiff, Nat.reduceLeDiff, reduceCtorEq, ↓reduceIte, tyF, kindsAV]
  refine ifP_mk ?_ ?_ <;> intro h1
  · simp -dsimp -implicitDefEqProofs (disch := omega) only [↓amPre, amPost, Nat.reduceAdd, Nat.reduceBEq, Nat.reduceEqDiff, Nat.reduceLeDiff, reduceCtorEq, ↓reduceIte, tyF, h1]
    simp at h1
    rw [szAV, if_pos (by omega)]
  · simp -dsimp -implicitDefEqProofs (disch := omega) only [↓amPre, amPost, Nat.reduceAdd, Nat.reduceBEq, Nat.reduceEqDiff, Nat.reduceLeDiff, reduceCtorEq, ↓reduceIte, tyF, h1]
    simp at h1
    rw [szAV, if_neg (by omega)]

theorem Kind.csz (k : Kind) : k.cs.length = 2 := rfl
theorem Kind.css (k : Kind) : ∀ a ∈ k.cs, a.stat1 = some a := by intro a h; simp [Kind.cs] at h; rcases h with rfl | rfl <;> rfl
set_option maxHeartbeats 1000000 in
theorem toKindS_spec (ks : List Kind) (hl : ks.length ≤ 1048576) : SpecAt Try.prog 21 [kindsAV ks] (kindsAV ks) := by
  refine spec_of_awp mixed Try.func21 rfl rfl (by decide) rfl (by decide +kernel) rfl ?_
  simp -dsimp -implicitDefEqProofs (disch := omega) only [↓amPre, amPost, Nat.reduceAdd, Nat.reduceBEq, Nat.reduceEqDiff, Nat.reduceLeDiff, reduceCtorEq, ↓reduceIte, tyF, kindsAV, map_repC]
  refine awp_loop (fun k st => k ≤ ks.length ∧ st.fr 4 = .i64 k ∧ st.fr 3 = .own 7 2 ks.length ∧ st.fr 0 = kindsAV ks ∧ st.mem 7 = some (filling Kind.cs [.i64 0, .i64 0] ks k)) ks.length ?_ ?_
  · simp -dsimp -implicitDefEqProofs (disch := omega) only [↓amPre, amPost, Nat.reduceAdd, Nat.reduceBEq, Nat.reduceEqDiff, Nat.reduceLeDiff, reduceCtorEq, ↓reduceIte, tyF, kindsAV, map_repC, filling_zero]
    exact ⟨Nat.zero_le _, rfl⟩
  rintro k st _ ⟨hk, h4, h3, h0, hm⟩
  by_cases hlt : k < ks.length
  · have hs := filling_step Kind.csz (zs := [.i64 0, .i64 0]) rfl ks k hlt
    have ho := filling_ok Kind.csz (zs := [.i64 0, .i64 0]) rfl ks k hlt
    have hc : (ks[k].av).cells = ks[k].cs := rfl
    have hkn : knownCells (ks[k].av) = true := rfl
    simp -dsimp -implicitDefEqProofs (disch := omega) only [↓amPre, amPost, Nat.reduceAdd, Nat.reduceBEq, Nat.reduceEqDiff, Nat.reduceLeDiff, reduceCtorEq, ↓reduceIte, tyF, h4, h3, h0, hm, kindsAV, Kind.av]
    refine callP_of (toKind_spec _) ?_
    simp -dsimp -implicitDefEqProofs (disch := omega) only [↓amPre, amPost, Nat.reduceAdd, Nat.reduceBEq, Nat.reduceEqDiff, Nat.reduceLeDiff, reduceCtorEq, ↓reduceIte, tyF, h4, h3, h0, hm, kindsAV, ho, hs, hc, hkn, Kind.csz]
    exact ⟨hlt, hlt, rfl⟩
  · have hke : k = ks.length := by omega
    subst hke
    have hst := stats_flat Kind.css ks
    have hch := chunk_flat Kind.cs ks (fun x _ => Kind.csz x)
    have hll := flat_len Kind.csz ks
    rw [filling_all] at hm
    simp -dsimp -implicitDefEqProofs (disch := omega) only [↓amPre, amPost, Nat.reduceAdd, Nat.reduceBEq, Nat.reduceEqDiff, Nat.reduceLeDiff, reduceCtorEq, ↓reduceIte, tyF, h4, h3, h0, hm, kindsAV, hst, hch, hll]
    rfl

theorem take_eq_take {α : Type} {a b : List α} (k : Nat) (hk : k < a.length) (hk' : k < b.length) : a.take (k + 1) = b.take (k + 1) ↔ a.take k = b.take k ∧ a[k] = b[k] := by
  rw [take_succ' a k hk, take_succ' b k hk']
  constructor
  · intro h
    obtain ⟨h1, h2⟩ := List.append_inj h (by simp; omega)
    exact ⟨h1, by simpa using h2⟩
  · rintro ⟨h1, h2⟩; rw [h1, h2]
set_option maxHeartbeats 1000000 in
theorem eqKindS_spec (a b : List Kind) (hl : a.length ≤ 1048576) (hb : b.length ≤ 1048576) : SpecAt Try.prog 23 [kindsAV a, kindsAV b] (.bl (decide (a = b))) := by
  refine spec_of_awp mixed Try.func23 rfl rfl (by decide) rfl (by decide +kernel) rfl ?_
  simp -dsimp -implicitDefEqProofs (disch := omega) only [↓amPre, amPost, Nat.reduceAdd, Nat.reduceBEq, Nat.reduceEqDiff, Nat.reduceLeDiff, reduceCtorEq, ↓reduceIte, tyF, kindsAV]
  refine ifP_mk ?_ ?_ <;> intro h1
  · simp -dsimp -implicitDefEqProofs (disch := omega) only [↓amPre, amPost, Nat.reduceAdd, Nat.reduceBEq, Nat.reduceEqDiff, Nat.reduceLeDiff, reduceCtorEq, ↓reduceIte, tyF, h1]
    have : ¬ a = b := by intro e; subst e; simp at h1
    simp [this]
  simp -dsimp -implicitDefEqProofs (disch := omega) only [↓amPre, amPost, Nat.reduceAdd, Nat.reduceBEq, Nat.reduceEqDiff, Nat.reduceLeDiff, reduceCtorEq, ↓reduceIte, tyF, h1]
  have hab : a.length = b.length := by simp at h1; omega
  refine awp_loop (fun k st => k ≤ a.length ∧ st.fr 5 = .i64 k ∧ st.fr 0 = kindsAV a ∧ st.fr 1 = kindsAV b ∧ a.take k = b.take k) a.length ?_ ?_
  · simp -dsimp -implicitDefEqProofs (disch := omega) only [↓amPre, amPost, Nat.reduceAdd, Nat.reduceBEq, Nat.reduceEqDiff, Nat.reduceLeDiff, reduceCtorEq, ↓reduceIte, tyF, kindsAV]
    exact ⟨Nat.zero_le _, rfl⟩
  rintro k st _ ⟨hk, h5, h0, h1, he⟩
  by_cases hlt : k < a.length
  · have hltb : k < b.length := by omega
    simp -dsimp -implicitDefEqProofs (disch := omega) only [↓amPre, amPost, Nat.reduceAdd, Nat.reduceBEq, Nat.reduceEqDiff, Nat.reduceLeDiff, reduceCtorEq, ↓reduceIte, tyF, h5, h0, h1, kindsAV, Kind.av]
    refine callP_of (eqKind_spec _ _) ?_
    simp -dsimp -implicitDefEqProofs (disch := omega) only [↓amPre, amPost, Nat.reduceAdd, Nat.reduceBEq, Nat.reduceEqDiff, Nat.reduceLeDiff, reduceCtorEq, ↓reduceIte, tyF, h5, h0, h1, kindsAV, Kind.av]
    refine ifP_mk ?_ ?_ <;> intro w1
    · simp -dsimp -implicitDefEqProofs (disch := omega) only [↓amPre, amPost, Nat.reduceAdd, Nat.reduceBEq, Nat.reduceEqDiff, Nat.reduceLeDiff, reduceCtorEq, ↓reduceIte, tyF, h5, h0, h1, kindsAV, Kind.av, w1]
      have hne : ¬ a = b := by
        intro e; subst e; simp at w1
      simp [hne]
    · simp -dsimp -implicitDefEqProofs (disch := omega) only [↓amPre, amPost, Nat.reduceAdd, Nat.reduceBEq, Nat.reduceEqDiff, Nat.reduceLeDiff, reduceCtorEq, ↓reduceIte, tyF, h5, h0, h1, kindsAV, Kind.av, w1]
      simp at w1
      exact ⟨hlt, hlt, rfl, (take_eq_take k hlt hltb).2 ⟨he, w1⟩⟩
  · simp -dsimp -implicitDefEqProofs (disch := omega) only [↓amPre, amPost, Nat.reduceAdd, Nat.reduceBEq, Nat.reduceEqDiff, Nat.reduceLeDiff, reduceCtorEq, ↓reduceIte, tyF, h5, h0, h1, kindsAV, Kind.av]
    have hke : k = a.length := by omega
    subst hke
    have : a = b := by
      have e1 : a.take a.length = a := List.take_length
      have e2 : b.take a.length = b := by rw [hab]; exact List.take_length
      rw [← e1, he, e2]
    simp [this]

def fcGo : List Kind → Int → Int
  | [], a => a
  | k :: r, a => if within k.count 1 20 && within k.orient 1 20 then fcGo r (a + k.count * k.orient) else 21
def facelets (ks : List Kind) : Int := fcGo ks 0
def validKinds (ks : List Kind) : Bool := within ks.length 1 3 && decide (facelets ks ≤ 20)
theorem mul_bound {x y : Int} (h1 : within x 1 20 = true) (h2 : within y 1 20 = true) : 1 ≤ x * y ∧ x * y ≤ 400 := by
  simp [within] at h1 h2
  have h3 : 1 * 1 ≤ x * y := Int.mul_le_mul h1.1 h2.1 (by omega) (by omega)
  have h4 : x * y ≤ 20 * 20 := Int.mul_le_mul h1.2 h2.2 (by omega) (by omega)
  omega

set_option maxHeartbeats 1000000 in
theorem facelet_spec (ks : List Kind) (hks : ks.length ≤ 1048576) : SpecAt Try.prog 60 [kindsAV ks] (.i64 (facelets ks)) := by
  refine spec_of_awp mixed Try.func60 rfl rfl (by decide) rfl (by decide +kernel) rfl ?_
  simp -dsimp -implicitDefEqProofs (disch := omega) only [↓amPre, amPost, Nat.reduceAdd, Nat.reduceBEq, Nat.reduceEqDiff, Nat.reduceLeDiff, reduceCtorEq, ↓reduceIte, tyF, kindsAV]
  refine awp_loop (fun k st => k ≤ ks.length ∧ st.fr 8 = .i64 k ∧ st.fr 7 = .i64 ks.length ∧ st.fr 6 = kindsAV ks ∧ ∃ a : Int, st.fr 3 = .i64 a ∧ 0 ≤ a ∧ a ≤ 400 * k ∧ facelets ks = fcGo (ks.drop k) a) ks.length ?_ ?_
  · simp -dsimp -implicitDefEqProofs (disch := omega) only [↓amPre, amPost, Nat.reduceAdd, Nat.reduceBEq, Nat.reduceEqDiff, Nat.reduceLeDiff, reduceCtorEq, ↓reduceIte, tyF, kindsAV]
    exact ⟨Nat.zero_le _, rfl, 0, rfl, by omega, by omega, rfl⟩
  rintro k st _ ⟨hk, h8, h7, h6, a, h3, ha, ha', hf⟩
  by_cases hlt : k < ks.length
  · rw [drop_cons _ _ hlt, fcGo] at hf
    simp -dsimp -implicitDefEqProofs (disch := omega) only [↓amPre, amPost, Nat.reduceAdd, Nat.reduceBEq, Nat.reduceEqDiff, Nat.reduceLeDiff, reduceCtorEq, ↓reduceIte, tyF, h8, h7, h6, h3, kindsAV, Kind.av]
    refine callP_of (within_spec _ _ _) ?_
    simp -dsimp -implicitDefEqProofs (disch := omega) only [↓amPre, amPost, Nat.reduceAdd, Nat.reduceBEq, Nat.reduceEqDiff, Nat.reduceLeDiff, reduceCtorEq, ↓reduceIte, tyF, h8, h7, h6, h3, kindsAV, Kind.av]
    refine ifP_mk ?_ ?_ <;> intro w1
    · simp -dsimp -implicitDefEqProofs (disch := omega) only [↓amPre, amPost, Nat.reduceAdd, Nat.reduceBEq, Nat.reduceEqDiff, Nat.reduceLeDiff, reduceCtorEq, ↓reduceIte, tyF, h8, h7, h6, h3, kindsAV, Kind.av, w1]
      simp at w1; rw [hf]; simp [w1]
    · simp -dsimp -implicitDefEqProofs (disch := omega) only [↓amPre, amPost, Nat.reduceAdd, Nat.reduceBEq, Nat.reduceEqDiff, Nat.reduceLeDiff, reduceCtorEq, ↓reduceIte, tyF, h8, h7, h6, h3, kindsAV, Kind.av, w1]
      refine callP_of (within_spec _ _ _) ?_
      simp -dsimp -implicitDefEqProofs (disch := omega) only [↓amPre, amPost, Nat.reduceAdd, Nat.reduceBEq, Nat.reduceEqDiff, Nat.reduceLeDiff, reduceCtorEq, ↓reduceIte, tyF, h8, h7, h6, h3, kindsAV, Kind.av, w1]
      refine ifP_mk ?_ ?_ <;> intro w2
      · simp -dsimp -implicitDefEqProofs (disch := omega) only [↓amPre, amPost, Nat.reduceAdd, Nat.reduceBEq, Nat.reduceEqDiff, Nat.reduceLeDiff, reduceCtorEq, ↓reduceIte, tyF, h8, h7, h6, h3, kindsAV, Kind.av, w1, w2]
        simp at w2; rw [hf]; simp [w2]
      · simp at w1 w2
        have hb := mul_bound w1 w2
        rw [w1, w2] at hf
        simp -dsimp -implicitDefEqProofs (disch := omega) only [↓amPre, amPost, Nat.reduceAdd, Nat.reduceBEq, Nat.reduceEqDiff, Nat.reduceLeDiff, reduceCtorEq, ↓reduceIte, tyF, h8, h7, h6, h3, kindsAV, Kind.av, w1, w2]
        exact ⟨hlt, hlt, rfl, _, rfl, by omega, by omega, by simpa using hf⟩
  · simp -dsimp -implicitDefEqProofs (disch := omega) only [↓amPre, amPost, Nat.reduceAdd, Nat.reduceBEq, Nat.reduceEqDiff, Nat.reduceLeDiff, reduceCtorEq, ↓reduceIte, tyF, h8, h7, h6, h3, kindsAV, Kind.av]
    have : k = ks.length := by omega
    subst this
    rw [hf]; simp [fcGo]

theorem implAreValid_spec (ks : List Kind) (hks : ks.length ≤ 1048576) : SpecAt Try.prog 22 [kindsAV ks] (.bl (validKinds ks)) := by
  refine spec_of_awp mixed Try.func22 rfl rfl (by decide) rfl (by decide +kernel) rfl ?_
  simp -dsimp -implicitDefEqProofs (disch := omega) only [↓amPre, amPost, Nat.reduceAdd, Nat.reduceBEq, Nat.reduceEqDiff, Nat.reduceLeDiff, reduceCtorEq, ↓reduceIte, tyF, kindsAV]
  refine callP_of (lengthKind_spec _) ?_
  simp -dsimp -implicitDefEqProofs (disch := omega) only [↓amPre, amPost, Nat.reduceAdd, Nat.reduceBEq, Nat.reduceEqDiff, Nat.reduceLeDiff, reduceCtorEq, ↓reduceIte, tyF, kindsAV]
  refine callP_of (within_spec _ _ _) ?_
  simp -dsimp -implicitDefEqProofs (disch := omega) only [↓amPre, amPost, Nat.reduceAdd, Nat.reduceBEq, Nat.reduceEqDiff, Nat.reduceLeDiff, reduceCtorEq, ↓reduceIte, tyF, kindsAV]
  refine ifP_mk ?_ ?_ <;> intro w1
  · simp -dsimp -implicitDefEqProofs (disch := omega) only [↓amPre, amPost, Nat.reduceAdd, Nat.reduceBEq, Nat.reduceEqDiff, Nat.reduceLeDiff, reduceCtorEq, ↓reduceIte, tyF, kindsAV, w1]
    refine callP_of (facelet_spec _ hks) ?_
    simp -dsimp -implicitDefEqProofs (disch := omega) only [↓amPre, amPost, Nat.reduceAdd, Nat.reduceBEq, Nat.reduceEqDiff, Nat.reduceLeDiff, reduceCtorEq, ↓reduceIte, tyF, kindsAV, w1]
    simp [validKinds, w1]
  · simp -dsimp -implicitDefEqProofs (disch := omega) only [↓amPre, amPost, Nat.reduceAdd, Nat.reduceBEq, Nat.reduceEqDiff, Nat.reduceLeDiff, reduceCtorEq, ↓reduceIte, tyF, kindsAV, w1]
    simp [validKinds, w1]

set_option maxHeartbeats 1000000 in
theorem specAreValid_spec (ks : List Kind) (hks : ks.length ≤ 1048576) : SpecAt Try.prog 20 [kindsAV ks] (.bl (validKinds ks)) := by
  refine spec_of_awp mixed Try.func20 rfl rfl (by decide) rfl (by decide +kernel) rfl ?_
  simp -dsimp -implicitDefEqProofs (disch := omega) only [↓amPre, amPost, Nat.reduceAdd, Nat.reduceBEq, Nat.reduceEqDiff, Nat.reduceLeDiff, reduceCtorEq, ↓reduceIte, tyF, kindsAV]
  refine callP_of (inRange_spec _ _ _) ?_
  simp -dsimp -implicitDefEqProofs (disch := omega) only [↓amPre, amPost, Nat.reduceAdd, Nat.reduceBEq, Nat.reduceEqDiff, Nat.reduceLeDiff, reduceCtorEq, ↓reduceIte, tyF, kindsAV]
  refine ifP_mk ?_ ?_ <;> intro w0
  · simp -dsimp -implicitDefEqProofs (disch := omega) only [↓amPre, amPost, Nat.reduceAdd, Nat.reduceBEq, Nat.reduceEqDiff, Nat.reduceLeDiff, reduceCtorEq, ↓reduceIte, tyF, w0]
    simp at w0
    simp [validKinds, w0]
  simp -dsimp -implicitDefEqProofs (disch := omega) only [↓amPre, amPost, Nat.reduceAdd, Nat.reduceBEq, Nat.reduceEqDiff, Nat.reduceLeDiff, reduceCtorEq, ↓reduceIte, tyF, w0, kindsAV]
  simp at w0
  refine awp_loop (fun k st => k ≤ ks.length ∧ st.fr 4 = .i64 k ∧ st.fr 0 = kindsAV ks ∧ ∃ a : Int, st.fr 3 = .i64 a ∧ 0 ≤ a ∧ a ≤ 400 * k ∧ facelets ks = fcGo (ks.drop k) a) ks.length ?_ ?_
  · simp -dsimp -implicitDefEqProofs (disch := omega) only [↓amPre, amPost, Nat.reduceAdd, Nat.reduceBEq, Nat.reduceEqDiff, Nat.reduceLeDiff, reduceCtorEq, ↓reduceIte, tyF, kindsAV]
    exact ⟨Nat.zero_le _, rfl, 0, rfl, by omega, by omega, rfl⟩
  rintro k st _ ⟨hk, h4, h0, a, h3, ha, ha', hf⟩
  by_cases hlt : k < ks.length
  · rw [drop_cons _ _ hlt, fcGo] at hf
    simp -dsimp -implicitDefEqProofs (disch := omega) only [↓amPre, amPost, Nat.reduceAdd, Nat.reduceBEq, Nat.reduceEqDiff, Nat.reduceLeDiff, reduceCtorEq, ↓reduceIte, tyF, h4, h0, h3, kindsAV, Kind.av]
    refine callP_of (inRange_spec _ _ _) ?_
    simp -dsimp -implicitDefEqProofs (disch := omega) only [↓amPre, amPost, Nat.reduceAdd, Nat.reduceBEq, Nat.reduceEqDiff, Nat.reduceLeDiff, reduceCtorEq, ↓reduceIte, tyF, h4, h0, h3, kindsAV, Kind.av]
    refine ifP_mk ?_ ?_ <;> intro w1
    · simp -dsimp -implicitDefEqProofs (disch := omega) only [↓amPre, amPost, Nat.reduceAdd, Nat.reduceBEq, Nat.reduceEqDiff, Nat.reduceLeDiff, reduceCtorEq, ↓reduceIte, tyF, h4, h0, h3, kindsAV, Kind.av, w1]
      simp at w1; simp [validKinds, hf, w1]
    · simp -dsimp -implicitDefEqProofs (disch := omega) only [↓amPre, amPost, Nat.reduceAdd, Nat.reduceBEq, Nat.reduceEqDiff, Nat.reduceLeDiff, reduceCtorEq, ↓reduceIte, tyF, h4, h0, h3, kindsAV, Kind.av, w1]
      refine callP_of (inRange_spec _ _ _) ?_
      simp -dsimp -implicitDefEqProofs (disch := omega) only [↓amPre, amPost, Nat.reduceAdd, Nat.reduceBEq, Nat.reduceEqDiff, Nat.reduceLeDiff, reduceCtorEq, ↓reduceIte, tyF, h4, h0, h3, kindsAV, Kind.av, w1]
      refine ifP_mk ?_ ?_ <;> intro w2
      · simp -dsimp -implicitDefEqProofs (disch := omega) only [↓amPre, amPost, Nat.reduceAdd, Nat.reduceBEq, Nat.reduceEqDiff, Nat.reduceLeDiff, reduceCtorEq, ↓reduceIte, tyF, h4, h0, h3, kindsAV, Kind.av, w1, w2]
        simp at w2; simp [validKinds, hf, w2]
      · simp at w1 w2
        have hb := mul_bound w1 w2
        rw [w1, w2] at hf
        simp -dsimp -implicitDefEqProofs (disch := omega) only [↓amPre, amPost, Nat.reduceAdd, Nat.reduceBEq, Nat.reduceEqDiff, Nat.reduceLeDiff, reduceCtorEq, ↓reduceIte, tyF, h4, h0, h3, kindsAV, Kind.av, w1, w2]
        exact ⟨hlt, hlt, rfl, _, rfl, by omega, by omega, by simpa using hf⟩
  · simp -dsimp -implicitDefEqProofs (disch := omega) only [↓amPre, amPost, Nat.reduceAdd, Nat.reduceBEq, Nat.reduceEqDiff, Nat.reduceLeDiff, reduceCtorEq, ↓reduceIte, tyF, h4, h0, h3, kindsAV, Kind.av]
    have : k = ks.length := by omega
    subst this
    simp [validKinds, hf, fcGo, w0]

theorem law5_spec (ks : List Kind) (hks : ks.length ≤ 9223372036854775807) : SpecAt Try.prog 5 [kindsAV ks] (.bl true) := by
  refine spec_of_awp mixed Try.func5 rfl rfl (by decide) rfl (by decide +kernel) rfl ?_
  simp -dsimp -implicitDefEqProofs (disch := omega) only [↓amPre, amPost, Nat.reduceAdd, Nat.reduceBEq, Nat.reduceEqDiff, Nat.reduceLeDiff, reduceCtorEq, ↓reduceIte, tyF, kindsAV]
  refine callP_of (szKindS_spec ks _ (by omega) (by omega) hks) ?_
  simp -dsimp -implicitDefEqProofs (disch := omega) only [↓amPre, amPost, Nat.reduceAdd, Nat.reduceBEq, Nat.reduceEqDiff, Nat.reduceLeDiff, reduceCtorEq, ↓reduceIte, tyF, kindsAV]
  refine ifP_mk ?_ ?_ <;> intro w1
  · simp -dsimp -implicitDefEqProofs (disch := omega) only [↓amPre, amPost, Nat.reduceAdd, Nat.reduceBEq, Nat.reduceEqDiff, Nat.reduceLeDiff, reduceCtorEq, ↓reduceIte, tyF, kindsAV, w1]
  have hl : ks.length ≤ 1048576 := by have := of_decide_eq_false w1; unfold szAV at this; split at this <;> omega
  simp -dsimp -implicitDefEqProofs (disch := omega) only [↓amPre, amPost, Nat.reduceAdd, Nat.reduceBEq, Nat.reduceEqDiff, Nat.reduceLeDiff, reduceCtorEq, ↓reduceIte, tyF, kindsAV, w1]
  refine callP_of (toKindS_spec ks hl) ?_
  simp -dsimp -implicitDefEqProofs (disch := omega) only [↓amPre, amPost, Nat.reduceAdd, Nat.reduceBEq, Nat.reduceEqDiff, Nat.reduceLeDiff, reduceCtorEq, ↓reduceIte, tyF, kindsAV]
  refine callP_of (specAreValid_spec ks hl) ?_
  simp -dsimp -implicitDefEqProofs (disch := omega) only [↓amPre, amPost, Nat.reduceAdd, Nat.reduceBEq, Nat.reduceEqDiff, Nat.reduceLeDiff, reduceCtorEq, ↓reduceIte, tyF, kindsAV]
  refine callP_of (toKindS_spec ks hl) ?_
  simp -dsimp -implicitDefEqProofs (disch := omega) only [↓amPre, amPost, Nat.reduceAdd, Nat.reduceBEq, Nat.reduceEqDiff, Nat.reduceLeDiff, reduceCtorEq, ↓reduceIte, tyF, kindsAV]
  refine callP_of (implAreValid_spec ks hl) ?_
  simp -dsimp -implicitDefEqProofs (disch := omega) only [↓amPre, amPost, Nat.reduceAdd, Nat.reduceBEq, Nat.reduceEqDiff, Nat.reduceLeDiff, reduceCtorEq, ↓reduceIte, tyF, kindsAV]
  refine ifP_mk ?_ ?_ <;> intro w2
  · simp at w2
  simp -dsimp -implicitDefEqProofs (disch := omega) only [↓amPre, amPost, Nat.reduceAdd, Nat.reduceBEq, Nat.reduceEqDiff, Nat.reduceLeDiff, reduceCtorEq, ↓reduceIte, tyF, kindsAV, w2]
  refine callP_of (toKindS_spec ks hl) ?_
  simp -dsimp -implicitDefEqProofs (disch := omega) only [↓amPre, amPost, Nat.reduceAdd, Nat.reduceBEq, Nat.reduceEqDiff, Nat.reduceLeDiff, reduceCtorEq, ↓reduceIte, tyF, kindsAV]
  refine callP_of (eqKindS_spec ks ks hl hl) ?_
  simp -dsimp -implicitDefEqProofs (disch := omega) only [↓amPre, amPost, Nat.reduceAdd, Nat.reduceBEq, Nat.reduceEqDiff, Nat.reduceLeDiff, reduceCtorEq, ↓reduceIte, tyF, kindsAV]
  refine ifP_mk ?_ ?_ <;> intro w3
  · simp at w3
  simp -dsimp -implicitDefEqProofs (disch := omega) only [↓amPre, amPost, Nat.reduceAdd, Nat.reduceBEq, Nat.reduceEqDiff, Nat.reduceLeDiff, reduceCtorEq, ↓reduceIte, tyF, kindsAV, w3]

def sumKO (ks : List Kind) : Int := ks.foldl (fun a k => a + k.count * k.orient) 0
theorem faceletImpl_spec (ks : List Kind) (hks : ks.length ≤ 1048576) : SpecAt Try.prog 30 [kindsAV ks] (.i64 (if validKinds ks then facelets ks else 0)) := by
  refine spec_of_awp mixed Try.func30 rfl rfl (by decide) rfl (by decide +kernel) rfl ?_
  simp -dsimp -implicitDefEqProofs (disch := omega) only [↓amPre, amPost, Nat.reduceAdd, Nat.reduceBEq, Nat.reduceEqDiff, Nat.reduceLeDiff, reduceCtorEq, ↓reduceIte, tyF, kindsAV]
  refine callP_of (implAreValid_spec ks hks) ?_
  cases h1 : validKinds ks with
  | false => simp -dsimp -implicitDefEqProofs (disch := omega) only [↓amPre, amPost, Nat.reduceAdd, Nat.reduceBEq, Nat.reduceEqDiff, Nat.reduceLeDiff, reduceCtorEq, ↓reduceIte, tyF, kindsAV, h1]
  | true =>
    simp -dsimp -implicitDefEqProofs (disch := omega) only [↓amPre, amPost, Nat.reduceAdd, Nat.reduceBEq, Nat.reduceEqDiff, Nat.reduceLeDiff, reduceCtorEq, ↓reduceIte, tyF, kindsAV, h1]
    refine callP_of (facelet_spec ks hks) ?_
    simp -dsimp -implicitDefEqProofs (disch := omega) only [↓amPre, amPost, Nat.reduceAdd, Nat.reduceBEq, Nat.reduceEqDiff, Nat.reduceLeDiff, reduceCtorEq, ↓reduceIte, tyF, kindsAV, h1]
    try simp
theorem fc_valid {ks : List Kind} (h : facelets ks ≤ 20) : ∀ k, k ≤ ks.length → facelets ks = fcGo (ks.drop k) (sumKO (ks.take k)) ∧ (0 ≤ sumKO (ks.take k) ∧ sumKO (ks.take k) ≤ 400 * k) ∧ ∀ (i : Nat) (hi : i < k) (hi' : i < ks.length), within (ks[i]).count 1 20 = true ∧ within (ks[i]).orient 1 20 = true
  | 0, _ => ⟨rfl, ⟨by simp [sumKO], by simp [sumKO]⟩, fun i hi _ => absurd hi (by omega)⟩
  | k + 1, hk => by
    obtain ⟨h1, h2, h3⟩ := fc_valid h k (by omega)
    have hlt : k < ks.length := by omega
    rw [drop_cons _ _ hlt, fcGo] at h1
    cases w1 : within (ks[k]).count 1 20 with
    | false => rw [w1] at h1; simp at h1; omega
    | true =>
      cases w2 : within (ks[k]).orient 1 20 with
      | false => rw [w1, w2] at h1; simp at h1; omega
      | true =>
        have hs : sumKO (ks.take (k + 1)) = sumKO (ks.take k) + (ks[k]).count * (ks[k]).orient := by
          unfold sumKO; rw [take_succ' ks k hlt, List.foldl_append]; rfl
        have hb := mul_bound w1 w2
        rw [w1, w2] at h1
        refine ⟨by rw [hs]; simpa using h1, by rw [hs]; omega, fun i hi hi' => ?_⟩
        by_cases hik : i < k
        · exact h3 i hik hi'
        · have : i = k := by omega
          subst this
          exact ⟨w1, w2⟩
theorem fc_sum {ks : List Kind} (h : facelets ks ≤ 20) : facelets ks = sumKO ks := by
  have := (fc_valid h ks.length (Nat.le_refl _)).1
  simpa [fcGo] using this
set_option maxHeartbeats 1000000 in
theorem l21Facelets_spec (ks : List Kind) (hks : ks.length ≤ 1048576) (hv : facelets ks ≤ 20) : SpecAt Try.prog 65 [kindsAV ks] (.i64 (facelets ks)) := by
  refine spec_of_awp mixed Try.func65 rfl rfl (by decide) rfl (by decide +kernel) rfl ?_
  simp -dsimp -implicitDefEqProofs (disch := omega) only [↓amPre, amPost, Nat.reduceAdd, Nat.reduceBEq, Nat.reduceEqDiff, Nat.reduceLeDiff, reduceCtorEq, ↓reduceIte, tyF, kindsAV]
  refine awp_loop (fun k st => k ≤ ks.length ∧ st.fr 4 = .i64 k ∧ st.fr 0 = kindsAV ks ∧ st.fr 3 = .i64 (sumKO (ks.take k))) ks.length ?_ ?_
  · simp -dsimp -implicitDefEqProofs (disch := omega) only [↓amPre, amPost, Nat.reduceAdd, Nat.reduceBEq, Nat.reduceEqDiff, Nat.reduceLeDiff, reduceCtorEq, ↓reduceIte, tyF, kindsAV]
    exact ⟨Nat.zero_le _, rfl, rfl⟩
  rintro k st _ ⟨hk, h4, h0, h3⟩
  by_cases hlt : k < ks.length
  · obtain ⟨_, hb2, _⟩ := fc_valid hv k hk
    obtain ⟨_, _, hw⟩ := fc_valid hv (k + 1) hlt
    obtain ⟨w1, w2⟩ := hw k (by omega) hlt
    have hb := mul_bound w1 w2
    have hs : sumKO (ks.take (k + 1)) = sumKO (ks.take k) + (ks[k]).count * (ks[k]).orient := by
      unfold sumKO; rw [take_succ' ks k hlt, List.foldl_append]; rfl
    simp -dsimp -implicitDefEqProofs (disch := omega) only [↓amPre, amPost, Nat.reduceAdd, Nat.reduceBEq, Nat.reduceEqDiff, Nat.reduceLeDiff, reduceCtorEq, ↓reduceIte, tyF, h4, h0, h3, kindsAV, Kind.av]
    exact ⟨hlt, hlt, rfl, by rw [hs]⟩
  · simp -dsimp -implicitDefEqProofs (disch := omega) only [↓amPre, amPost, Nat.reduceAdd, Nat.reduceBEq, Nat.reduceEqDiff, Nat.reduceLeDiff, reduceCtorEq, ↓reduceIte, tyF, h4, h0, h3, kindsAV, Kind.av]
    have : k = ks.length := by omega
    subst this
    rw [List.take_length, ← fc_sum hv]
theorem faceletSpec_spec (ks : List Kind) (hks : ks.length ≤ 1048576) : SpecAt Try.prog 29 [kindsAV ks] (.i64 (if validKinds ks then facelets ks else 0)) := by
  refine spec_of_awp mixed Try.func29 rfl rfl (by decide) rfl (by decide +kernel) rfl ?_
  simp -dsimp -implicitDefEqProofs (disch := omega) only [↓amPre, amPost, Nat.reduceAdd, Nat.reduceBEq, Nat.reduceEqDiff, Nat.reduceLeDiff, reduceCtorEq, ↓reduceIte, tyF, kindsAV]
  refine callP_of (specAreValid_spec ks hks) ?_
  cases h1 : validKinds ks with
  | false => simp -dsimp -implicitDefEqProofs (disch := omega) only [↓amPre, amPost, Nat.reduceAdd, Nat.reduceBEq, Nat.reduceEqDiff, Nat.reduceLeDiff, reduceCtorEq, ↓reduceIte, tyF, h1]
  | true =>
    have hv : facelets ks ≤ 20 := by simp [validKinds] at h1; exact h1.2
    simp -dsimp -implicitDefEqProofs (disch := omega) only [↓amPre, amPost, Nat.reduceAdd, Nat.reduceBEq, Nat.reduceEqDiff, Nat.reduceLeDiff, reduceCtorEq, ↓reduceIte, tyF, kindsAV, h1]
    refine callP_of (l21Facelets_spec ks hks hv) ?_
    simp -dsimp -implicitDefEqProofs (disch := omega) only [↓amPre, amPost, Nat.reduceAdd, Nat.reduceBEq, Nat.reduceEqDiff, Nat.reduceLeDiff, reduceCtorEq, ↓reduceIte, tyF, h1]
theorem law7_spec (ks : List Kind) (hks : ks.length ≤ 9223372036854775807) : SpecAt Try.prog 7 [kindsAV ks] (.bl true) := by
  refine spec_of_awp mixed Try.func7 rfl rfl (by decide) rfl (by decide +kernel) rfl ?_
  simp -dsimp -implicitDefEqProofs (disch := omega) only [↓amPre, amPost, Nat.reduceAdd, Nat.reduceBEq, Nat.reduceEqDiff, Nat.reduceLeDiff, reduceCtorEq, ↓reduceIte, tyF, kindsAV]
  refine callP_of (szKindS_spec ks _ (by omega) (by omega) hks) ?_
  simp -dsimp -implicitDefEqProofs (disch := omega) only [↓amPre, amPost, Nat.reduceAdd, Nat.reduceBEq, Nat.reduceEqDiff, Nat.reduceLeDiff, reduceCtorEq, ↓reduceIte, tyF, kindsAV]
  refine ifP_mk ?_ ?_ <;> intro w1
  · simp -dsimp -implicitDefEqProofs (disch := omega) only [↓amPre, amPost, Nat.reduceAdd, Nat.reduceBEq, Nat.reduceEqDiff, Nat.reduceLeDiff, reduceCtorEq, ↓reduceIte, tyF, kindsAV, w1]
  have hl : ks.length ≤ 1048576 := by have := of_decide_eq_false w1; unfold szAV at this; split at this <;> omega
  simp -dsimp -implicitDefEqProofs (disch := omega) only [↓amPre, amPost, Nat.reduceAdd, Nat.reduceBEq, Nat.reduceEqDiff, Nat.reduceLeDiff, reduceCtorEq, ↓reduceIte, tyF, kindsAV, w1]
  refine callP_of (toKindS_spec ks hl) ?_
  simp -dsimp -implicitDefEqProofs (disch := omega) only [↓amPre, amPost, Nat.reduceAdd, Nat.reduceBEq, Nat.reduceEqDiff, Nat.reduceLeDiff, reduceCtorEq, ↓reduceIte, tyF, kindsAV]
  refine callP_of (faceletSpec_spec ks hl) ?_
  simp -dsimp -implicitDefEqProofs (disch := omega) only [↓amPre, amPost, Nat.reduceAdd, Nat.reduceBEq, Nat.reduceEqDiff, Nat.reduceLeDiff, reduceCtorEq, ↓reduceIte, tyF, kindsAV]
  refine callP_of (toKindS_spec ks hl) ?_
  simp -dsimp -implicitDefEqProofs (disch := omega) only [↓amPre, amPost, Nat.reduceAdd, Nat.reduceBEq, Nat.reduceEqDiff, Nat.reduceLeDiff, reduceCtorEq, ↓reduceIte, tyF, kindsAV]
  refine callP_of (faceletImpl_spec ks hl) ?_
  simp -dsimp -implicitDefEqProofs (disch := omega) only [↓amPre, amPost, Nat.reduceAdd, Nat.reduceBEq, Nat.reduceEqDiff, Nat.reduceLeDiff, reduceCtorEq, ↓reduceIte, tyF, kindsAV]
  refine callP_of (toKindS_spec ks hl) ?_
  simp -dsimp -implicitDefEqProofs (disch := omega) only [↓amPre, amPost, Nat.reduceAdd, Nat.reduceBEq, Nat.reduceEqDiff, Nat.reduceLeDiff, reduceCtorEq, ↓reduceIte, tyF, kindsAV]
  refine callP_of (eqKindS_spec ks ks hl hl) ?_
  simp -dsimp -implicitDefEqProofs (disch := omega) only [↓amPre, amPost, Nat.reduceAdd, Nat.reduceBEq, Nat.reduceEqDiff, Nat.reduceLeDiff, reduceCtorEq, ↓reduceIte, tyF, kindsAV]
  refine ifP_mk ?_ ?_ <;> intro w3
  · simp at w3
  simp -dsimp -implicitDefEqProofs (disch := omega) only [↓amPre, amPost, Nat.reduceAdd, Nat.reduceBEq, Nat.reduceEqDiff, Nat.reduceLeDiff, reduceCtorEq, ↓reduceIte, tyF, kindsAV, w3]
theorem openInt2 : Opens Try.prog 2 Int (fun n => [.i64 n]) intOk := opens_int Try.underlying2
theorem openKind : Opens Try.prog 73 Kind Kind.cs (fun k => intOk k.count ∧ intOk k.orient) :=
  Opens.map (opens_struct Try.underlying73 (by kernel_rfl)
    (opensFs_cons 2 1 (by rfl) (by kernel_rfl) (by rfl) (by decide) openInt2
    (opensFs_cons 2 1 (by rfl) (by kernel_rfl) (by rfl) (by decide) openInt2 opensFs_nil)))
    (fun p => Kind.mk p.1 p.2.1) (fun _ => rfl) (fun _ h => ⟨h.1, h.2.1⟩)
theorem openKinds : Opens Try.prog 24 (List Kind) (fun ks => [kindsAV ks]) (fun ks => ks.length ≤ 9223372036854775807 ∧ KindsOk ks) :=
  opens_slice Try.underlying24 (by kernel_rfl) (by decide) Kind.av (fun _ => rfl) openKind
end Go.AM

/-
  CONTRACTS of functions of the program, and what they compute, by content.
-/
import Derived.Test.YtbhaeaehgmpfhaaCW2
set_option linter.unusedVariables false
set_option linter.unusedSimpArgs false
set_option maxRecDepth 8000
namespace Go.AM
namespace Draws
open Go.Proofs
noncomputable def bS (s : Src) (n : Int) : Src := open Classical in if h : s.ok ∧ intOk n then (below s n h.1 h.2).choose else s
noncomputable def bX (s : Src) (n : Int) : Int := open Classical in if h : s.ok ∧ intOk n then (below s n h.1 h.2).choose_spec.choose else 0
theorem belowF (s : Src) (n : Int) (h : s.ok) (hn : intOk n) : SpecX Try.prog 87 [s.pt, .i64 n] [some (bS s n).pt] (.i64 (bX s n)) ∧ (bS s n).ok ∧ 0 ≤ bX s n ∧ (0 < n → bX s n < n) ∧ (n ≤ 0 → bX s n = 0) := by
  have := (below s n h hn).choose_spec.choose_spec
  unfold bS bX
  rw [dif_pos ⟨h, hn⟩, dif_pos ⟨h, hn⟩]
  exact this
theorem ints_bears : ∀ L : List Int, AV.bearsL (L.map AV.i64) = false
  | [] => rfl
  | _ :: r => by rw [List.map_cons, AV.bearsL, ints_bears r]; rfl
theorem grabL_ints (s : Nat) (p : Path) : ∀ (L : List Int) (i : Nat) (st : St) (K : List AV → St → Prop), grabL s p i (L.map AV.i64) st K = K (L.map AV.i64) st
  | [], _, _, _ => rfl
  | a :: r, i, st, K => by
    have hb : AV.bears (AV.v (.int .i64 a)) = false := rfl
    rw [List.map_cons, grabL_cons, grabE_v, grabC_v, hb]
    refine (propext ⟨fun h => ?_, fun h => ?_⟩ : _ = _)
    · have h2 := h.2
      rw [grabL_ints s p r (i + 1) st] at h2
      exact h2
    · refine ⟨rfl, ?_⟩
      rw [grabL_ints s p r (i + 1) st]
      exact h
noncomputable def ordK (s : Src) : Nat → Src × List Int
  | 0 => (s, [])
  | k + 1 => (bS (ordK s k).1 (k + 1), (ordK s k).2.take (bX (ordK s k).1 (k + 1)).toNat ++ [(k : Int)] ++ (ordK s k).2.drop (bX (ordK s k).1 (k + 1)).toNat)
theorem ordK_ok (s : Src) (h : s.ok) : ∀ k, k ≤ 100 → (ordK s k).1.ok ∧ (ordK s k).2.length = k
  | 0, _ => ⟨h, rfl⟩
  | k + 1, hk => by
    have ih := ordK_ok s h k (by omega)
    have hb := belowF (ordK s k).1 (k + 1) ih.1 (by unfold intOk; omega)
    refine ⟨hb.2.1, ?_⟩
    have h3 := hb.2.2.2.1 (by omega)
    simp only [ordK, List.length_append, List.length_take, List.length_drop, List.length_singleton, ih.2]
    omega
theorem drawOrder (s : Src) (n : Nat) (h : s.ok) (hn : n ≤ 20) : SpecX Try.prog 89 [s.pt, .i64 n] [some (ordK s n).1.pt] (itr (ordK s n).2) := by
  refine spec_of_awp (M := MM) (np := 2) (fz := false) mixed Try.func89 rfl rfl (by decide) rfl (Nat.le_refl _) (by decide +kernel) (.inl rfl) (by simp only [sigsOk_some, sigsOk_nil, and_true]; rfl) ?_
  simp -dsimp -implicitDefEqProofs (disch := first | omega | (simp only [lenr]; done) | (simp only [lenr]; omega)) only [↓amPre, amAll, ↓reduceIte, reduceCtorEq, Nat.reduceEqDiff, Nat.reduceBEq, Nat.reduceAdd, Nat.reduceLeDiff, Nat.reduceSub, Nat.reduceMul, Int.reduceToNat, List.size_toArray, tyF, MM, bu0, ipure, kpure, tpure, sspure, kset, tset, ksnoc, tsnoc, Kind.av, Twist.sl, Twist.tr, Invar.av]
  refine awp_loopR 9 32 (.tr 1 []) (by simp -dsimp -implicitDefEqProofs (disch := first | omega | (simp only [lenr]; done) | (simp only [lenr]; omega)) only [↓amPre, amAll, ↓reduceIte, reduceCtorEq, Nat.reduceEqDiff, Nat.reduceBEq, Nat.reduceAdd, Nat.reduceLeDiff, Nat.reduceSub, Nat.reduceMul, Int.reduceToNat, List.size_toArray, tyF, MM, bu0, ipure, kpure, tpure, sspure, kset, tset, ksnoc, tsnoc, Kind.av, Twist.sl, Twist.tr, Invar.av]) (by decide) (by decide) (by decide) (fun k st => k ≤ n ∧ st.fr 6 = .i64 k ∧ st.fr 1 = .i64 n ∧ st.fr 5 = .ref 32 [] 1 0 k ∧ st.fr 0 = .loc 0 [] 0 0 ∧ st.mem 32 = some (itr (ordK s k).2) ∧ st.mem 0 = some ((ordK s k).1.pt)) (n) ?_ ?_
  · simp -dsimp -implicitDefEqProofs (disch := first | omega | (simp only [lenr]; done) | (simp only [lenr]; omega)) only [↓amPre, amAll, ↓reduceIte, reduceCtorEq, Nat.reduceEqDiff, Nat.reduceBEq, Nat.reduceAdd, Nat.reduceLeDiff, Nat.reduceSub, Nat.reduceMul, Int.reduceToNat, List.size_toArray, tyF, MM, bu0, ipure, kpure, tpure, sspure, kset, tset, ksnoc, tsnoc, Kind.av, Twist.sl, Twist.tr, Invar.av, ren_eq]
    simp [ordK]
  rintro k st _ ⟨hk, f6, f1, f5, f0, m32, m0⟩
  have ho := ordK_ok s h k (by omega)
  by_cases hlt : k < n
  · obtain ⟨q1, q2, q3, q4, _⟩ := belowF (ordK s k).1 (k + 1) ho.1 (by unfold intOk; omega)
    have q4 := q4 (by omega)
    have hs : ordK s (k + 1) = (bS (ordK s k).1 (k + 1), (ordK s k).2.take (bX (ordK s k).1 (k + 1)).toNat ++ [(k : Int)] ++ (ordK s k).2.drop (bX (ordK s k).1 (k + 1)).toNat) := rfl
    obtain ⟨m, hm⟩ : ∃ m : Nat, bX (ordK s k).1 (k + 1) = m := ⟨_, (Int.toNat_of_nonneg q3).symm⟩
    rw [hm] at q1 hs q4
    rw [Int.toNat_natCast] at hs
    generalize bS (ordK s k).1 (k + 1) = s2 at q1 q2 hs
    obtain ⟨ho1, ho2⟩ := ho
    generalize (ordK s k).1 = s1 at q1 ho1 m0
    generalize (ordK s k).2 = L at hs ho2 m32
    simp -dsimp -implicitDefEqProofs (disch := first | omega | (simp only [lenr]; done) | (simp only [lenr]; omega)) only [↓amPre, amAll, ↓reduceIte, reduceCtorEq, Nat.reduceEqDiff, Nat.reduceBEq, Nat.reduceAdd, Nat.reduceLeDiff, Nat.reduceSub, Nat.reduceMul, Int.reduceToNat, List.size_toArray, tyF, MM, bu0, ipure, kpure, tpure, sspure, kset, tset, ksnoc, tsnoc, Kind.av, Twist.sl, Twist.tr, Invar.av, f6, f1, f5, f0, m32, m0, ho2]
    refine callX_of (q1) ?_
    have hmk : m - 0 ≤ k := by omega
    have hbl : AV.bearsL (L.map AV.i64) = false := ints_bears L
    have hT : List.take (m - 0) (List.drop 0 (L.map AV.i64)) = (L.take m).map AV.i64 := by simp
    have hlm : (L.take m).length ≤ 20 := by rw [List.length_take]; omega
    simp -dsimp -implicitDefEqProofs (disch := first | omega | (simp only [lenr]; done) | (simp only [lenr]; omega)) only [↓amPre, amAll, ↓reduceIte, reduceCtorEq, Nat.reduceEqDiff, Nat.reduceBEq, Nat.reduceAdd, Nat.reduceLeDiff, Nat.reduceSub, Nat.reduceMul, Int.reduceToNat, List.size_toArray, tyF, MM, bu0, ipure, kpure, tpure, sspure, kset, tset, ksnoc, tsnoc, Kind.av, Twist.sl, Twist.tr, Invar.av, f6, f1, f5, f0, m32, m0, ho2, hmk, hbl, hT, grabL_ints]
    refine ⟨hlt, hlt, ?_, ?_, ?_⟩
    · have : (List.take (m - 0) L).length + 1 + (List.drop m L).length = k + 1 := by
        rw [List.length_take, List.length_drop]; omega
      rw [this]
    · rw [hs, Nat.sub_zero]
      simp only [itr, List.map_append]
    · rw [hs]
  · have hke : k = n := by omega
    subst hke
    simp -dsimp -implicitDefEqProofs (disch := first | omega | (simp only [lenr]; done) | (simp only [lenr]; omega)) only [↓amPre, amAll, ↓reduceIte, reduceCtorEq, Nat.reduceEqDiff, Nat.reduceBEq, Nat.reduceAdd, Nat.reduceLeDiff, Nat.reduceSub, Nat.reduceMul, Int.reduceToNat, List.size_toArray, tyF, MM, bu0, ipure, kpure, tpure, sspure, kset, tset, ksnoc, tsnoc, Kind.av, Twist.sl, Twist.tr, Invar.av, f6, f1, f5, f0, m32, m0, ho.2]
end Draws
end Go.AM

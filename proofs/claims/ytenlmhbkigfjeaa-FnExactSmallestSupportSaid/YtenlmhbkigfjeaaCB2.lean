/-
  CONTRACTS of functions of the program, and what they compute, by content.
-/
import Derived.Test.YtenlmhbkigfjeaaCB1
import Derived.Test.YtenlmhbkigfjeaaM2SD
import Derived.Test.YtenlmhbkigfjeaaM2Facts
import Derived.RangeFuncBox
import Derived.RangeFuncLeaves
import Derived.Shelf.Abstract
import Derived.OwnWalkIn
import Derived.TacticsInMore
import Derived.LoopNIn
import Derived.LoopIn
import Derived.Maps.AppendAt
import Derived.Test.YtenlmhbkigfjeaaCB0
import Derived.Laws.AppendOwn
set_option linter.unusedVariables false
set_option linter.unusedSimpArgs false
set_option maxRecDepth 8000
namespace Go.AM
namespace Sr
open Go.Proofs
open Ch (PN pt idL cst cst_app cst_len)
open Bf (lexLt slotC insS SrtOk)
open Ck (sfr)
def MM : FuncId → List Bool := fun f => if f = 247 then [true, false, false] else []
theorem listPrec (a b : List Int) (h : a.length = b.length) (hl : a.length ≤ 1099511627776) : SpecAt Try.prog 276 [isl a, isl b] (.bl (lexLt a b)) := by
  refine spec_of_awp (M := MM) (np := 2) (fz := true) mixed Try.func276 rfl rfl (by decide) rfl (Nat.le_refl _) (by decide +kernel) (.inr ⟨rfl, rfl⟩) trivial ?_
  simp -dsimp -implicitDefEqProofs (disch := first | omega | (simp only [lenr]; try omega)) only [↓amPre, amAll, ↓reduceIte, reduceCtorEq, Nat.reduceEqDiff, Nat.reduceBEq, Nat.reduceAdd, Nat.reduceLeDiff, Nat.reduceSub, Nat.reduceMul, Int.reduceToNat, List.size_toArray, tyF, MM, bu0, cbU49]
  refine awp_loop (fun k st => k ≤ a.length ∧ st.fr 5 = .i64 k ∧ st.fr 0 = isl a ∧ st.fr 1 = isl b ∧ a.take k = b.take k) (a.length) ?_ ?_
  · simp -dsimp -implicitDefEqProofs (disch := first | omega | (simp only [lenr]; try omega)) only [↓amPre, amAll, ↓reduceIte, reduceCtorEq, Nat.reduceEqDiff, Nat.reduceBEq, Nat.reduceAdd, Nat.reduceLeDiff, Nat.reduceSub, Nat.reduceMul, Int.reduceToNat, List.size_toArray, tyF, MM, bu0, cbU49]
    repeat' (first | omega | rfl | exact i64c (by omega) | exact vic (by omega) | apply And.intro)
  rintro k st _ ⟨hk, f5, f0, f1, ek⟩
  by_cases hlt : k < a.length
  · by_cases hne : a.getD k 0 = b.getD k 0
    · simp -dsimp -implicitDefEqProofs (disch := first | omega | (simp only [lenr]; try omega)) only [↓amPre, amAll, ↓reduceIte, reduceCtorEq, Nat.reduceEqDiff, Nat.reduceBEq, Nat.reduceAdd, Nat.reduceLeDiff, Nat.reduceSub, Nat.reduceMul, Int.reduceToNat, List.size_toArray, tyF, MM, bu0, cbU49, f5, f0, f1, hne]
      exact ⟨hlt, by omega, (take_eq_iff 0 k hlt (by omega)).2 ⟨ek, hne⟩⟩
    · have e := Bf.lex_at h ek hlt hne
      simp -dsimp -implicitDefEqProofs (disch := first | omega | (simp only [lenr]; try omega)) only [↓amPre, amAll, ↓reduceIte, reduceCtorEq, Nat.reduceEqDiff, Nat.reduceBEq, Nat.reduceAdd, Nat.reduceLeDiff, Nat.reduceSub, Nat.reduceMul, Int.reduceToNat, List.size_toArray, tyF, MM, bu0, cbU49, f5, f0, f1, hne]
      rw [e]
  · have hke : k = a.length := by omega
    have e : a = b := by
      rw [hke, List.take_length, h, List.take_length] at ek; exact ek
    have e2 := Bf.lex_irr a
    subst e
    simp -dsimp -implicitDefEqProofs (disch := first | omega | (simp only [lenr]; try omega)) only [↓amPre, amAll, ↓reduceIte, reduceCtorEq, Nat.reduceEqDiff, Nat.reduceBEq, Nat.reduceAdd, Nat.reduceLeDiff, Nat.reduceSub, Nat.reduceMul, Int.reduceToNat, List.size_toArray, tyF, MM, bu0, cbU49, f5, f0, f1, e2]
abbrev fS (S : List (List Int)) (D : List Int) (Z : List Nat) (w : Bool) : AV := .agg [ssl S, isl D, isl (cst Z), .bl w]
abbrev fT (S : List (List Int)) (D : List Int) (Z : List Nat) (w : Bool) : AV := .agg [sfr S, itr D, itr (cst Z), .bl w]
theorem searchSlot (n : Nat) (S : List (List Int)) (D : List Int) (Z : List Nat) (w : Bool) (s : List Int) (hZ : SrtOk n S Z) (hn : n ≤ 20) (hs : s.length = n) (hl : S.length ≤ 3000) :
    SpecAt Try.prog 262 [fS S D Z w, isl s] (.i64 (slotC S Z s)) := by
  have hsl := Bf.slot_le S Z s
  have hzl := hZ.len
  refine spec_of_awp (M := MM) (np := 2) (fz := true) mixed Try.func262 rfl rfl (by decide) rfl (Nat.le_refl _) (by decide +kernel) (.inr ⟨rfl, rfl⟩) trivial ?_
  simp -dsimp -implicitDefEqProofs (disch := first | omega | (simp only [lenr]; try omega)) only [↓amPre, amAll, ↓reduceIte, reduceCtorEq, Nat.reduceEqDiff, Nat.reduceBEq, Nat.reduceAdd, Nat.reduceLeDiff, Nat.reduceSub, Nat.reduceMul, Int.reduceToNat, List.size_toArray, tyF, MM, bu0, cbU49]
  refine awp_loop (fun k st => k ≤ Z.length ∧ st.fr 2 = .loc 2 [] 0 0 ∧ st.fr 1 = isl s ∧ st.mem 2 = some (.pt 4 (fS S D Z w)) ∧ (∃ lo hi : Nat, st.fr 5 = .i64 lo ∧ st.fr 6 = .i64 hi ∧ lo ≤ slotC S Z s ∧ slotC S Z s ≤ hi ∧ hi ≤ Z.length ∧ hi + k ≤ lo + Z.length)) (Z.length) ?_ ?_
  · simp -dsimp -implicitDefEqProofs (disch := first | omega | (simp only [lenr]; try omega)) only [↓amPre, amAll, ↓reduceIte, reduceCtorEq, Nat.reduceEqDiff, Nat.reduceBEq, Nat.reduceAdd, Nat.reduceLeDiff, Nat.reduceSub, Nat.reduceMul, Int.reduceToNat, List.size_toArray, tyF, MM, bu0, cbU49, cst_len]
    exact ⟨Nat.zero_le _, 0, Z.length, rfl, rfl, Nat.zero_le _, hsl, Nat.le_refl _, by omega⟩
  rintro k st _ ⟨hk, f2, f1, m2, ek⟩
  obtain ⟨lo, hi, f5, f6, h1, h2, h3, h4⟩ := ek
  by_cases c1 : lo < hi
  · obtain ⟨mid, hmid⟩ : ∃ mid : Nat, mid = (lo + hi) / 2 := ⟨_, rfl⟩
    have hm1 : lo ≤ mid ∧ mid < hi := by omega
    have hmz : mid < Z.length := by omega
    have hmS : Z.getD mid 0 < S.length := (hZ.mem _).1 (mem_getD Z mid 0 hmz)
    have hsi := Bf.slot_iff hZ s hmz
    have hgZ : ((cst Z).map AV.i64).getD mid .any = .i64 (Z.getD mid 0 : Nat) := by rw [getD_eq _ _ _ (by rw [List.length_map, cst_len]; exact hmz), List.getElem_map, ← getD_eq _ _ 0, Ch.cst_get hmz]
    have hgm := hZ.ll _ (mem_getD S _ default hmS)
    have q := listPrec (S.getD (Z.getD mid 0) default) s (by rw [hgm, hs]) (by omega)
    have hwm : IntKind.i64.wrap (((lo : Int) + hi).tdiv 2) = (mid : Int) := by
      have e : ((lo : Int) + hi).tdiv 2 = (mid : Int) := by rw [hmid]; exact (Int.ofNat_tdiv (lo + hi) 2).symm
      rw [e, wrap64_id (by omega)]
    have hlZ : (cst Z).length = Z.length := cst_len Z
    cases hb : lexLt (S.getD (Z.getD mid 0) default) s with
    | true =>
      rw [hb] at q
      have hlt := hsi.1 hb
      simp -dsimp -implicitDefEqProofs (disch := first | omega | (simp only [lenr]; try omega)) only [↓amPre, amAll, ↓reduceIte, reduceCtorEq, Nat.reduceEqDiff, Nat.reduceBEq, Nat.reduceAdd, Nat.reduceLeDiff, Nat.reduceSub, Nat.reduceMul, Int.reduceToNat, List.size_toArray, tyF, MM, bu0, cbU49, f2, f1, m2, f5, f6, c1, hwm, hlZ, hgZ]
      refine callP_of (q) ?_
      simp -dsimp -implicitDefEqProofs (disch := first | omega | (simp only [lenr]; try omega)) only [↓amPre, amAll, ↓reduceIte, reduceCtorEq, Nat.reduceEqDiff, Nat.reduceBEq, Nat.reduceAdd, Nat.reduceLeDiff, Nat.reduceSub, Nat.reduceMul, Int.reduceToNat, List.size_toArray, tyF, MM, bu0, cbU49, f2, f1, m2, f5, f6]
      exact ⟨by omega, by omega, mid + 1, hi, i64c (by simp), rfl, by omega, h2, h3, by omega⟩
    | false =>
      rw [hb] at q
      have hge : slotC S Z s ≤ mid := by
        rcases Nat.lt_or_ge mid (slotC S Z s) with c | c
        · rw [hsi.2 c] at hb; cases hb
        · exact c
      simp -dsimp -implicitDefEqProofs (disch := first | omega | (simp only [lenr]; try omega)) only [↓amPre, amAll, ↓reduceIte, reduceCtorEq, Nat.reduceEqDiff, Nat.reduceBEq, Nat.reduceAdd, Nat.reduceLeDiff, Nat.reduceSub, Nat.reduceMul, Int.reduceToNat, List.size_toArray, tyF, MM, bu0, cbU49, f2, f1, m2, f5, f6, c1, hwm, hlZ, hgZ]
      refine callP_of (q) ?_
      simp -dsimp -implicitDefEqProofs (disch := first | omega | (simp only [lenr]; try omega)) only [↓amPre, amAll, ↓reduceIte, reduceCtorEq, Nat.reduceEqDiff, Nat.reduceBEq, Nat.reduceAdd, Nat.reduceLeDiff, Nat.reduceSub, Nat.reduceMul, Int.reduceToNat, List.size_toArray, tyF, MM, bu0, cbU49, f2, f1, m2, f5, f6]
      exact ⟨by omega, by omega, lo, mid, rfl, rfl, h1, hge, by omega, by omega⟩
  · have : lo = slotC S Z s := by omega
    have c2 : ¬ ((lo : Int) < hi) := by omega
    simp -dsimp -implicitDefEqProofs (disch := first | omega | (simp only [lenr]; try omega)) only [↓amPre, amAll, ↓reduceIte, reduceCtorEq, Nat.reduceEqDiff, Nat.reduceBEq, Nat.reduceAdd, Nat.reduceLeDiff, Nat.reduceSub, Nat.reduceMul, Int.reduceToNat, List.size_toArray, tyF, MM, bu0, cbU49, f2, f1, m2, f5, f6, c2]
    rw [this]
theorem searchIndex (n : Nat) (S : List (List Int)) (D : List Int) (Z : List Nat) (w : Bool) (s : List Int) (hZ : SrtOk n S Z) (hd : S.Nodup) (hn : n ≤ 20) (hs : s.length = n) (hl : S.length ≤ 3000) :
    SpecAt Try.prog 250 [fS S D Z w, isl s] (.i64 (ixK S s)) := by
  have hsl := Bf.slot_le S Z s
  have hzl := hZ.len
  have hlZ : (cst Z).length = Z.length := cst_len Z
  have q := searchSlot n S D Z w s hZ hn hs hl
  have hix := Bf.slot_ix hZ hd s
  refine spec_of_awp (M := MM) (np := 2) (fz := true) mixed Try.func250 rfl rfl (by decide) rfl (Nat.le_refl _) (by decide +kernel) (.inr ⟨rfl, rfl⟩) trivial ?_
  simp -dsimp -implicitDefEqProofs (disch := first | omega | (simp only [lenr]; try omega)) only [↓amPre, amAll, ↓reduceIte, reduceCtorEq, Nat.reduceEqDiff, Nat.reduceBEq, Nat.reduceAdd, Nat.reduceLeDiff, Nat.reduceSub, Nat.reduceMul, Int.reduceToNat, List.size_toArray, tyF, MM, bu0, cbU49]
  refine callP_of (q) ?_
  by_cases c1 : slotC S Z s < Z.length
  · have hgZ : ((cst Z).map AV.i64).getD (slotC S Z s) .any = .i64 (Z.getD (slotC S Z s) 0 : Nat) := by rw [getD_eq _ _ _ (by rw [List.length_map, cst_len]; exact c1), List.getElem_map, ← getD_eq _ _ 0, Ch.cst_get c1]
    have hmS : Z.getD (slotC S Z s) 0 < S.length := (hZ.mem _).1 (mem_getD Z _ 0 c1)
    have hgm := hZ.ll _ (mem_getD S _ default hmS)
    have q2 := sEqualInts (S.getD (Z.getD (slotC S Z s) 0) default) s (by omega)
    by_cases c2 : S.getD (Z.getD (slotC S Z s) 0) default = s
    · rw [if_pos ⟨c1, c2⟩] at hix
      rw [decide_eq_true c2] at q2
      rw [hix]
      generalize slotC S Z s = m at *
      simp -dsimp -implicitDefEqProofs (disch := first | omega | (simp only [lenr]; try omega)) only [↓amPre, amAll, ↓reduceIte, reduceCtorEq, Nat.reduceEqDiff, Nat.reduceBEq, Nat.reduceAdd, Nat.reduceLeDiff, Nat.reduceSub, Nat.reduceMul, Int.reduceToNat, List.size_toArray, tyF, MM, bu0, cbU49, hlZ, c1, hgZ]
      refine callP_of (q2) ?_
      simp -dsimp -implicitDefEqProofs (disch := first | omega | (simp only [lenr]; try omega)) only [↓amPre, amAll, ↓reduceIte, reduceCtorEq, Nat.reduceEqDiff, Nat.reduceBEq, Nat.reduceAdd, Nat.reduceLeDiff, Nat.reduceSub, Nat.reduceMul, Int.reduceToNat, List.size_toArray, tyF, MM, bu0, cbU49, hlZ, c1, hgZ]
    · rw [if_neg (fun h => c2 h.2)] at hix
      rw [decide_eq_false c2] at q2
      rw [hix]
      generalize slotC S Z s = m at *
      simp -dsimp -implicitDefEqProofs (disch := first | omega | (simp only [lenr]; try omega)) only [↓amPre, amAll, ↓reduceIte, reduceCtorEq, Nat.reduceEqDiff, Nat.reduceBEq, Nat.reduceAdd, Nat.reduceLeDiff, Nat.reduceSub, Nat.reduceMul, Int.reduceToNat, List.size_toArray, tyF, MM, bu0, cbU49, hlZ, c1, hgZ]
      refine callP_of (q2) ?_
      simp -dsimp -implicitDefEqProofs (disch := first | omega | (simp only [lenr]; try omega)) only [↓amPre, amAll, ↓reduceIte, reduceCtorEq, Nat.reduceEqDiff, Nat.reduceBEq, Nat.reduceAdd, Nat.reduceLeDiff, Nat.reduceSub, Nat.reduceMul, Int.reduceToNat, List.size_toArray, tyF, MM, bu0, cbU49, hlZ, c1, hgZ]
  · rw [if_neg (fun h => c1 h.1)] at hix
    rw [hix]
    generalize slotC S Z s = m at *
    simp -dsimp -implicitDefEqProofs (disch := first | omega | (simp only [lenr]; try omega)) only [↓amPre, amAll, ↓reduceIte, reduceCtorEq, Nat.reduceEqDiff, Nat.reduceBEq, Nat.reduceAdd, Nat.reduceLeDiff, Nat.reduceSub, Nat.reduceMul, Int.reduceToNat, List.size_toArray, tyF, MM, bu0, cbU49, hlZ, c1]
theorem copy_ins (S : List (List Int)) (Z : List Nat) (s : List Int) {m : Nat} (hm : m = slotC S Z s) (hle : m ≤ Z.length) :
    (((cst Z ++ [0]).take (m + 1)).map AV.i64 ++ (((cst Z ++ [0]).drop m).take (Z.length + 1 - (m + 1))).map AV.i64 ++ ((cst Z ++ [0]).drop (m + 1 + min (Z.length + 1 - (m + 1)) ((cst Z ++ [0]).drop m).length)).map AV.i64).set m (.i64 S.length) = (cst (insS S Z s)).map AV.i64 := by
  have hl : (cst Z ++ [(0 : Int)]).length = Z.length + 1 := by simp [cst_len]
  have e1 : (cst Z ++ [(0 : Int)]).drop (m + 1 + min (Z.length + 1 - (m + 1)) ((cst Z ++ [(0 : Int)]).drop m).length) = [] := by
    apply List.drop_eq_nil_of_le
    rw [List.length_drop, hl]; omega
  have e2 : ((cst Z ++ [(0 : Int)]).drop m).take (Z.length + 1 - (m + 1)) = cst (Z.drop m) := by
    rw [List.drop_append_of_le_length (by rw [cst_len]; exact hle), List.take_append_of_le_length (by rw [List.length_drop, cst_len]; omega), Ch.cst_drop, List.take_of_length_le (by rw [cst_len, List.length_drop]; omega)]
  have e3 : (cst Z ++ [(0 : Int)]).take (m + 1) = cst (Z.take m) ++ [(cst Z ++ [(0 : Int)]).getD m 0] := by
    rw [take_succ_eq _ m 0 (by rw [hl]; omega), List.take_append_of_le_length (by rw [cst_len]; exact hle)]
    congr 1
    simp [cst, List.map_take]
  rw [e1, e2, e3, insS, ← hm, cst_app]
  have hlt : (List.map AV.i64 (cst (Z.take m))).length = m := by rw [List.length_map, cst_len, List.length_take]; omega
  simp only [List.map_append, List.map_cons, List.map_nil, List.append_nil, List.append_assoc, List.cons_append, List.nil_append]
  rw [List.set_append_right _ _ (by omega), hlt, Nat.sub_self, List.set_cons_zero]
  rfl
theorem searchAdd (n : Nat) (S : List (List Int)) (D : List Int) (Z : List Nat) (w : Bool) (s : List Int) (x : Int) (hZ : SrtOk n S Z) (hn : n ≤ 20) (hs : s.length = n) (hl : S.length ≤ 3000) (hD : D.length = S.length) :
    SpecX Try.prog 247 [fT S D Z w, isl s, .i64 x] [] (fT (S ++ [s]) (D ++ [x]) (insS S Z s) w) := by
  have hsl := Bf.slot_le S Z s
  have hzl := hZ.len
  have hlZ : (cst Z).length = Z.length := cst_len Z
  have q := searchSlot n S D Z w s hZ hn hs hl
  have hfz : ∀ L : List (List Int), AV.fzL (L.map fun x => isl x) = L.map fun x => isl x := fun L => by rw [fzL_map, islfz]
  obtain ⟨m, hm⟩ : ∃ m, m = slotC S Z s := ⟨_, rfl⟩
  rw [← hm] at q hsl
  refine spec_of_awp_any (M := MM) (np := 3) (X := [3]) (fz := false) mixed Try.func247 rfl rfl (by decide) rfl (Nat.le_refl _) (by decide +kernel) (.inl rfl) (by first | trivial | simp only [sigsOk_nil, sigsOk_some, sigsOk_none, sig_tr, sig_pt, sig_mt, sig_agg, List.map_cons, List.map_nil, sig1_tr, sig1_pt, sig1_v, and_self, true_and, List.length_map, List.length_set]) ?_
  simp -dsimp -implicitDefEqProofs (disch := first | omega | (simp only [lenr]; try omega)) only [↓amPre, amAll, ↓reduceIte, reduceCtorEq, Nat.reduceEqDiff, Nat.reduceBEq, Nat.reduceAdd, Nat.reduceLeDiff, Nat.reduceSub, Nat.reduceMul, Int.reduceToNat, List.size_toArray, tyF, MM, bu0, cbU49, islfz, ints_fz]
  refine callP_of (q) ?_
  simp -dsimp -implicitDefEqProofs (disch := first | omega | (simp only [lenr]; try omega)) only [↓amPre, amAll, ↓reduceIte, reduceCtorEq, Nat.reduceEqDiff, Nat.reduceBEq, Nat.reduceAdd, Nat.reduceLeDiff, Nat.reduceSub, Nat.reduceMul, Int.reduceToNat, List.size_toArray, tyF, MM, bu0, cbU49, hlZ]
  refine split_go 9 (by decide +kernel) ?_
  have hbe : ∀ l : List Int, AV.bearsL (l.map AV.i64) = false := Ck.bears_ints
  simp -dsimp -implicitDefEqProofs (disch := first | omega | (simp only [lenr]; try omega)) only [↓amPre, amAll, ↓reduceIte, reduceCtorEq, Nat.reduceEqDiff, Nat.reduceBEq, Nat.reduceAdd, Nat.reduceLeDiff, Nat.reduceSub, Nat.reduceMul, Int.reduceToNat, List.size_toArray, tyF, MM, bu0, cbU49, hlZ, hbe]
  exact copy_ins S Z s hm hsl
end Sr
end Go.AM
namespace Go.AM
namespace Bf
open Ch (PN pt idL)
theorem outF_el {n : Nat} {mv : List (List Int)} (h1 : 1 ≤ n) (h2 : n ≤ 20) (hm : ∀ s ∈ mv, PN n s) : ∀ k, ∀ s ∈ (outF mv (letL mv.length) n k).1.S, PN n s ∧ Ch.Gen n mv s := by
  have st : ∀ (k : Nat) (s : Ex × Bool) (j : Nat), k < s.1.S.length → j < (letL mv.length).length → (∀ t ∈ s.1.S, PN n t ∧ Ch.Gen n mv t) → k < (stpF mv (letL mv.length) k s j).1.S.length ∧ ∀ t ∈ (stpF mv (letL mv.length) k s j).1.S, PN n t ∧ Ch.Gen n mv t := by
    intro k s j hk hj h
    unfold stpF
    split
    · exact ⟨hk, h⟩
    · split
      · exact ⟨hk, h⟩
      · split
        · exact ⟨hk, h⟩
        · refine ⟨Nat.lt_of_lt_of_le hk (stp_grw ..).len, fun t ht => ?_⟩
          simp only [stp] at ht
          split at ht
          · exact h t ht
          · rcases List.mem_append.1 ht with q | q
            · exact h t q
            · rw [List.mem_singleton.1 q]; exact nbr_ok h1 h2 hm (h _ (mem_getD _ k default hk)) (mem_getD _ j 0 hj)
  have iN : ∀ (k : Nat) (s : Ex × Bool), k < s.1.S.length → (∀ t ∈ s.1.S, PN n t ∧ Ch.Gen n mv t) → ∀ j, j ≤ (letL mv.length).length → k < (innF mv (letL mv.length) k s j).1.S.length ∧ ∀ t ∈ (innF mv (letL mv.length) k s j).1.S, PN n t ∧ Ch.Gen n mv t := by
    intro k s hk h j
    induction j with
    | zero => intro _; exact ⟨hk, h⟩
    | succ j ih => intro hj; obtain ⟨a, b⟩ := ih (by omega); exact st k _ j a (by omega) b
  intro k
  induction k with
  | zero => intro s hs; simp only [outF, List.mem_singleton] at hs; rw [hs]; exact ⟨PN.one h1 h2, .one⟩
  | succ k ih =>
    rw [outF]; split
    · rename_i c
      exact (iN k _ c ih _ (Nat.le_refl _)).2
    · exact ih
def lsN (S : List (List Int)) (k : Nat) : Int := ((movL (S.getD k default) (S.getD k default).length).length : Int)
def lsK (S : List (List Int)) : Nat → Int
  | 0 => -1
  | k + 1 => if lsK S k < 0 ∨ lsN S (k + 1) < lsK S k then lsN S (k + 1) else lsK S k
theorem movL_len (p : List Int) (k : Nat) : (movL p k).length ≤ k := by
  unfold movL
  rw [List.length_map]
  have := List.length_filter_le (fun i => p.getD i 0 != (i : Int)) (List.range k)
  simpa using this
theorem lsK_bd {S : List (List Int)} (h : ∀ s ∈ S, s.length ≤ 20) : ∀ k, k < S.length → -1 ≤ lsK S k ∧ lsK S k ≤ 20
  | 0, _ => by simp [lsK]
  | k + 1, hk => by
    have ih := lsK_bd h k (by omega)
    have a := movL_len (S.getD (k + 1) default) (S.getD (k + 1) default).length
    have b := h _ (mem_getD S (k + 1) default hk)
    have c : lsN S (k + 1) = ((movL (S.getD (k + 1) default) (S.getD (k + 1) default).length).length : Int) := rfl
    rw [lsK]; split <;> omega
end Bf
end Go.AM
set_option maxRecDepth 8000
namespace Go.AM
namespace Sr
open Go.Proofs
open Ch (PN pt idL cst cst_app cst_len)
open Bf (Ex inn stp nbr insS SrtOk srtS innF outF)
open Ck (sfr)
abbrev zS : AV := .agg [.nilsl, .nilsl, .nilsl, .bl false]
abbrev fE (e : Ex) (w : Bool) : AV := fT e.S (cst e.D) (srtS e.S) w
theorem searchSlot0 (s : List Int) : SpecAt Try.prog 262 [zS, isl s] (.i64 0) := by
  refine spec_of_awp (M := MM) (np := 2) (fz := true) mixed Try.func262 rfl rfl (by decide) rfl (Nat.le_refl _) (by decide +kernel) (.inr ⟨rfl, rfl⟩) trivial ?_
  simp -dsimp -implicitDefEqProofs (disch := first | omega | (simp only [lenr]; try omega)) only [↓amPre, amAll, ↓reduceIte, reduceCtorEq, Nat.reduceEqDiff, Nat.reduceBEq, Nat.reduceAdd, Nat.reduceLeDiff, Nat.reduceSub, Nat.reduceMul, Int.reduceToNat, List.size_toArray, tyF, MM, bu0, cbU49]
  refine awp_loop (fun k st => k ≤ 0 ∧ st.fr 2 = .loc 2 [] 0 0 ∧ st.fr 1 = isl s ∧ st.fr 5 = .i64 0 ∧ st.fr 6 = .i64 0 ∧ st.mem 2 = some (.pt 4 zS)) (0) ?_ ?_
  · simp -dsimp -implicitDefEqProofs (disch := first | omega | (simp only [lenr]; try omega)) only [↓amPre, amAll, ↓reduceIte, reduceCtorEq, Nat.reduceEqDiff, Nat.reduceBEq, Nat.reduceAdd, Nat.reduceLeDiff, Nat.reduceSub, Nat.reduceMul, Int.reduceToNat, List.size_toArray, tyF, MM, bu0, cbU49]
  rintro k st _ ⟨hk, f2, f1, f5, f6, m2⟩
  simp -dsimp -implicitDefEqProofs (disch := first | omega | (simp only [lenr]; try omega)) only [↓amPre, amAll, ↓reduceIte, reduceCtorEq, Nat.reduceEqDiff, Nat.reduceBEq, Nat.reduceAdd, Nat.reduceLeDiff, Nat.reduceSub, Nat.reduceMul, Int.reduceToNat, List.size_toArray, tyF, MM, bu0, cbU49, f2, f1, f5, f6, m2]
theorem searchAdd0 (s : List Int) : SpecX Try.prog 247 [zS, isl s, .i64 0] [] (fT [s] [0] [0] false) := by
  have q := searchSlot0 s
  refine spec_of_awp_any (M := MM) (np := 3) (X := [3]) (fz := false) mixed Try.func247 rfl rfl (by decide) rfl (Nat.le_refl _) (by decide +kernel) (.inl rfl) (by first | trivial | simp only [sigsOk_nil, sigsOk_some, sigsOk_none, sig_tr, sig_pt, sig_mt, sig_agg, List.map_cons, List.map_nil, sig1_tr, sig1_pt, sig1_v, and_self, true_and, List.length_map, List.length_set]) ?_
  simp -dsimp -implicitDefEqProofs (disch := first | omega | (simp only [lenr]; try omega)) only [↓amPre, amAll, ↓reduceIte, reduceCtorEq, Nat.reduceEqDiff, Nat.reduceBEq, Nat.reduceAdd, Nat.reduceLeDiff, Nat.reduceSub, Nat.reduceMul, Int.reduceToNat, List.size_toArray, tyF, MM, bu0, cbU49]
  refine callP_of (q) ?_
  simp -dsimp -implicitDefEqProofs (disch := first | omega | (simp only [lenr]; try omega)) only [↓amPre, amAll, ↓reduceIte, reduceCtorEq, Nat.reduceEqDiff, Nat.reduceBEq, Nat.reduceAdd, Nat.reduceLeDiff, Nat.reduceSub, Nat.reduceMul, Int.reduceToNat, List.size_toArray, tyF, MM, bu0, cbU49]
  refine split_go 9 (by decide +kernel) ?_
  simp -dsimp -implicitDefEqProofs (disch := first | omega | (simp only [lenr]; try omega)) only [↓amPre, amAll, ↓reduceIte, reduceCtorEq, Nat.reduceEqDiff, Nat.reduceBEq, Nat.reduceAdd, Nat.reduceLeDiff, Nat.reduceSub, Nat.reduceMul, Int.reduceToNat, List.size_toArray, tyF, MM, bu0, cbU49]
  rfl
theorem searchFromI (p : Puzz) (N : Nat) (hN : p.n = N) (hd : puzzOk p) :
    SpecAt Try.prog 211 [p.sl, isl (idL N)] (fE (outF p.mv (letL p.mv.length) N 3000).1 (!(outF p.mv (letL p.mv.length) N 3000).2)) := by
  have hpn := Ck.puzz_pn hd
  have hn20 := hd.1.1
  rw [show p.n.toNat = N by omega] at hpn
  have hN1 : 1 ≤ N := by omega
  have hN2 : N ≤ 20 := by omega
  have hA := letL_len p.mv.length
  have h8 := hd.1.2.1
  have l0 := copyI (idL N) (by rw [runI_len]; omega)
  have q0 := searchAdd0 (idL N)
  have ll := lettersS p h8
  have hok := fun k => (Bf.out_ok hN1 hN2 hpn k).1
  refine spec_of_awp_any (M := MM) (np := 2) (X := [13]) (fz := false) mixed Try.func211 rfl rfl (by decide) rfl (Nat.le_refl _) (by decide +kernel) (.inl rfl) (by first | trivial | simp only [sigsOk_nil, sigsOk_some, sigsOk_none, sig_tr, sig_pt, sig_mt, sig_agg, List.map_cons, List.map_nil, sig1_tr, sig1_pt, sig1_v, and_self, true_and, List.length_map, List.length_set]) ?_
  simp -dsimp -implicitDefEqProofs (disch := first | omega | (simp only [lenr]; try omega)) only [↓amPre, amAll, ↓reduceIte, reduceCtorEq, Nat.reduceEqDiff, Nat.reduceBEq, Nat.reduceAdd, Nat.reduceLeDiff, Nat.reduceSub, Nat.reduceMul, Int.reduceToNat, List.size_toArray, tyF, MM, bu0, cbU49]
  have e1 : ∀ X : List Int, AV.fzL (X.map AV.i64) = X.map AV.i64 := fun X => by rw [fzL_map, ints_fz]
  refine callP_frz l0 ?_
  simp -dsimp -implicitDefEqProofs (disch := first | omega | (simp only [lenr]; try omega)) only [↓amPre, amAll, ↓reduceIte, reduceCtorEq, Nat.reduceEqDiff, Nat.reduceBEq, Nat.reduceAdd, Nat.reduceLeDiff, Nat.reduceSub, Nat.reduceMul, Int.reduceToNat, List.size_toArray, tyF, MM, bu0, cbU49, itrF, e1]
  refine callX_of (q0) ?_
  simp -dsimp -implicitDefEqProofs (disch := first | omega | (simp only [lenr]; try omega)) only [↓amPre, amAll, ↓reduceIte, reduceCtorEq, Nat.reduceEqDiff, Nat.reduceBEq, Nat.reduceAdd, Nat.reduceLeDiff, Nat.reduceSub, Nat.reduceMul, Int.reduceToNat, List.size_toArray, tyF, MM, bu0, cbU49, hA]
  refine callP_of (ll) ?_
  simp -dsimp -implicitDefEqProofs (disch := first | omega | (simp only [lenr]; try omega)) only [↓amPre, amAll, ↓reduceIte, reduceCtorEq, Nat.reduceEqDiff, Nat.reduceBEq, Nat.reduceAdd, Nat.reduceLeDiff, Nat.reduceSub, Nat.reduceMul, Int.reduceToNat, List.size_toArray, tyF, MM, bu0, cbU49, hA]
  have hs0 : ([0] : List Nat) = srtS [idL N] := rfl
  refine awp_loop (fun k st => k ≤ 3000 ∧ st.fr 7 = .i64 k ∧ st.fr 6 = .ref 15 [] 1 0 (2 * p.mv.length) ∧ st.fr 5 = .loc 5 [] 0 0 ∧ st.fr 2 = .loc 2 [] 0 0 ∧ st.fr 4 = .loc 4 [] 0 0 ∧ st.mem 2 = some (.pt 3 p.sl) ∧ st.mem 15 = some (itr (letL p.mv.length)) ∧ st.mem 5 = some (.pt 4 (fE (Bf.out p.mv (letL p.mv.length) N k) false)) ∧ st.mem 4 = some (.pt 4 zS) ∧ (outF p.mv (letL p.mv.length) N k = (Bf.out p.mv (letL p.mv.length) N k, false) ∧ k ≤ (Bf.out p.mv (letL p.mv.length) N k).S.length)) (3000) ?_ ?_
  · simp -dsimp -implicitDefEqProofs (disch := first | omega | (simp only [lenr]; try omega)) only [↓amPre, amAll, ↓reduceIte, reduceCtorEq, Nat.reduceEqDiff, Nat.reduceBEq, Nat.reduceAdd, Nat.reduceLeDiff, Nat.reduceSub, Nat.reduceMul, Int.reduceToNat, List.size_toArray, tyF, MM, bu0, cbU49, hA]
    exact ⟨rfl, rfl, rfl, Nat.zero_le _⟩
  rintro k st _ ⟨hk, f7, f6, f5, f2, f4, m2, m15, m5, m4, ek⟩
  obtain ⟨hF, hkl⟩ := ek
  have hk0 := hok k
  have h3k := Bf.outF_len p.mv (letL p.mv.length) N k
  rw [hF] at h3k
  have hsfl : ∀ L : List (List Int), (L.map fun x => isl x).length = L.length := fun L => by simp
  by_cases c1 : k < (Bf.out p.mv (letL p.mv.length) N k).S.length
  case neg =>
    have hst := Bf.outF_stay (mv := p.mv) (A := letL p.mv.length) (n := N) (k := k) (.inr (by rw [hF]; show (Bf.out p.mv (letL p.mv.length) N k).S.length ≤ k; omega)) (3000 - k)
    have h3k' : k ≤ 3000 := by have : (Bf.out p.mv (letL p.mv.length) N k).S.length ≤ 3000 := h3k; omega
    rw [show k + (3000 - k) = 3000 by omega, hF] at hst
    rw [hst]
    simp -dsimp -implicitDefEqProofs (disch := first | omega | (simp only [lenr]; try omega)) only [↓amPre, amAll, ↓reduceIte, reduceCtorEq, Nat.reduceEqDiff, Nat.reduceBEq, Nat.reduceAdd, Nat.reduceLeDiff, Nat.reduceSub, Nat.reduceMul, Int.reduceToNat, List.size_toArray, tyF, MM, bu0, cbU49, f7, f6, f5, f2, f4, m2, m15, m5, m4, c1]
  have hk3 : k < 3000 := by have : (Bf.out p.mv (letL p.mv.length) N k).S.length ≤ 3000 := h3k; omega
  have hsk := hk0.el _ (mem_getD _ k default c1)
  have hinn := fun j hj => Bf.inn_ok hN1 hN2 hpn hk0 c1 j hj
  have hing := fun j => Bf.inn_grw p.mv (letL p.mv.length) k (Bf.out p.mv (letL p.mv.length) N k) j
  have hdle := fun j => Bf.inn_dle (mv := p.mv) (A := letL p.mv.length) (e := Bf.out p.mv (letL p.mv.length) N k) (Bf.out_dle _ _ _ _) (k := k) (by rw [hk0.lD]; exact c1) j
  have hou1 : Bf.out p.mv (letL p.mv.length) N (k + 1) = inn p.mv (letL p.mv.length) k (Bf.out p.mv (letL p.mv.length) N k) (2 * p.mv.length) := by rw [Bf.out, if_pos c1, hA]
  have houF : outF p.mv (letL p.mv.length) N (k + 1) = innF p.mv (letL p.mv.length) k (Bf.out p.mv (letL p.mv.length) N k, false) (2 * p.mv.length) := by rw [Bf.outF, hF, if_pos c1, hA]
  have hin3 := fun j => Bf.innF_len (mv := p.mv) (A := letL p.mv.length) (k := k) (s := (Bf.out p.mv (letL p.mv.length) N k, false)) h3k j
  have hend := fun (h : (outF p.mv (letL p.mv.length) N (k + 1)).2 = true) => Bf.outF_stay (mv := p.mv) (A := letL p.mv.length) (n := N) (k := k + 1) (.inl h) (3000 - (k + 1))
  rw [show k + 1 + (3000 - (k + 1)) = 3000 by omega] at hend
  rw [houF, hou1]
  rw [houF] at hend
  rw [hA] at hinn
  obtain ⟨E, hE⟩ : ∃ E, E = Bf.out p.mv (letL p.mv.length) N k := ⟨_, rfl⟩
  rw [← hE] at m5 hk0 c1 hsk hinn hing hdle hin3 hend ⊢
  simp -dsimp -implicitDefEqProofs (disch := first | omega | (simp only [lenr]; try omega)) only [↓amPre, amAll, ↓reduceIte, reduceCtorEq, Nat.reduceEqDiff, Nat.reduceBEq, Nat.reduceAdd, Nat.reduceLeDiff, Nat.reduceSub, Nat.reduceMul, Int.reduceToNat, List.size_toArray, tyF, MM, bu0, cbU49, f7, f6, f5, f2, f4, m2, m15, m5, m4, c1]
  refine awp_loop (fun j st => j ≤ (2 * p.mv.length) ∧ st.fr 8 = .i64 j ∧ st.fr 7 = .i64 k ∧ st.fr 6 = .ref 15 [] 1 0 (2 * p.mv.length) ∧ st.fr 5 = .loc 5 [] 0 0 ∧ st.fr 2 = .loc 2 [] 0 0 ∧ st.fr 4 = .loc 4 [] 0 0 ∧ st.mem 2 = some (.pt 3 p.sl) ∧ st.mem 15 = some (itr (letL p.mv.length)) ∧ st.mem 5 = some (.pt 4 (fE (inn p.mv (letL p.mv.length) k E j) false)) ∧ st.mem 4 = some (.pt 4 zS) ∧ innF p.mv (letL p.mv.length) k (E, false) j = (inn p.mv (letL p.mv.length) k E j, false)) ((2 * p.mv.length)) ?_ ?_
  · simp -dsimp -implicitDefEqProofs (disch := first | omega | (simp only [lenr]; try omega)) only [↓amPre, amAll, ↓reduceIte, reduceCtorEq, Nat.reduceEqDiff, Nat.reduceBEq, Nat.reduceAdd, Nat.reduceLeDiff, Nat.reduceSub, Nat.reduceMul, Int.reduceToNat, List.size_toArray, tyF, MM, bu0, cbU49, f7, f6, f5, f2, f4, m2, m15, m5, m4]
    exact ⟨Nat.zero_le _, rfl, rfl, rfl⟩
  rintro j st _ ⟨hj, f8, f7, f6, f5, f2, f4, m2, m15, m5, m4, ej⟩
  by_cases c2 : j < 2 * p.mv.length
  case neg =>
    have hje : j = 2 * p.mv.length := by omega
    subst hje
    simp -dsimp -implicitDefEqProofs (disch := first | omega | (simp only [lenr]; try omega)) only [↓amPre, amAll, ↓reduceIte, reduceCtorEq, Nat.reduceEqDiff, Nat.reduceBEq, Nat.reduceAdd, Nat.reduceLeDiff, Nat.reduceSub, Nat.reduceMul, Int.reduceToNat, List.size_toArray, tyF, MM, bu0, cbU49, f8, f7, f6, f5, f2, f4, m2, m15, m5, m4]
    have := (hing (2 * p.mv.length)).len
    exact ⟨by omega, by omega, ej, by omega⟩
  obtain ⟨hk2, _⟩ := hinn j (by omega)
  have hgj := hing j
  have hdl := hdle j k
  have h3j : (inn p.mv (letL p.mv.length) k E j).S.length ≤ 3000 := by have := hin3 j; rw [ej] at this; exact this
  have hstp : inn p.mv (letL p.mv.length) k E (j + 1) = stp p.mv (letL p.mv.length) k (inn p.mv (letL p.mv.length) k E j) j := rfl
  have hstF : innF p.mv (letL p.mv.length) k (E, false) (j + 1) = Bf.stpF p.mv (letL p.mv.length) k (inn p.mv (letL p.mv.length) k E j, false) j := by rw [← ej]; rfl
  have hsty := fun (h : (innF p.mv (letL p.mv.length) k (E, false) (j + 1)).2 = true) => Bf.innF_stay h (2 * p.mv.length - (j + 1))
  rw [show j + 1 + (2 * p.mv.length - (j + 1)) = 2 * p.mv.length by omega] at hsty
  obtain ⟨E2, hE2⟩ : ∃ E2, E2 = inn p.mv (letL p.mv.length) k E j := ⟨_, rfl⟩
  rw [← hE2] at hk2 hgj hdl hstp hstF m5 h3j
  have hkE := Nat.lt_of_lt_of_le c1 hgj.len
  have hgk := hgj.get c1
  have hnE2 : nbr p.mv E2 k ((letL p.mv.length).getD j 0) = compI (E.S.getD k default) (letP p.mv ((letL p.mv.length).getD j 0)) := by rw [← hgk]
  have hxA := mem_getD (letL p.mv.length) j 0 (show j < (letL p.mv.length).length by omega)
  have hxok := Bf.nbr_ok hN1 hN2 hpn hsk hxA
  unfold Bf.stpF at hstF
  rw [if_neg (by simp)] at hstF
  simp only [hnE2] at hstF
  unfold Bf.stp at hstp
  rw [hnE2] at hstp
  have hAj : ((letL p.mv.length).map AV.i64).getD j .any = .i64 ((letL p.mv.length).getD j 0) := by rw [getD_eq _ _ _ (by simpa [hA] using c2), List.getElem_map, ← getD_eq _ _ 0]
  have hlt := letL_mem.1 hxA
  have qa := sApply1 p (E.S.getD k default) ((letL p.mv.length).getD j 0) hd.1 ⟨by rw [hN]; have := hsk.1.1; omega, hsk.1.2⟩ (by unfold letOk; omega)
  have hgS : (E2.S.map fun x => isl x).getD k .any = isl (E.S.getD k default) := by rw [getD_eq _ _ _ (by simpa using hkE), List.getElem_map, ← hgk, getD_eq _ _ _ hkE]
  obtain ⟨x, hxx⟩ : ∃ x, x = compI (E.S.getD k default) (letP p.mv ((letL p.mv.length).getD j 0)) := ⟨_, rfl⟩
  rw [← hxx] at qa hstF hstp hxok
  have hsrt := Bf.srtS_ok (n := N) hk2.nd (fun s hs => (hk2.el s hs).1.1)
  have qi := searchIndex N E2.S (cst E2.D) (srtS E2.S) false x hsrt hk2.nd hN2 hxok.1.1 h3j
  have hDk : ((cst E2.D).map AV.i64).getD k .any = .i64 (E2.D.getD k 0 : Nat) := by rw [getD_eq _ _ _ (by rw [List.length_map, cst_len, hk2.lD]; exact hkE), List.getElem_map, ← getD_eq _ _ 0, Ch.cst_get (by rw [hk2.lD]; exact hkE)]
  have hlD : (cst E2.D).length = E2.S.length := by rw [cst_len, hk2.lD]
  simp -dsimp -implicitDefEqProofs (disch := first | omega | (simp only [lenr]; try omega)) only [↓amPre, amAll, ↓reduceIte, reduceCtorEq, Nat.reduceEqDiff, Nat.reduceBEq, Nat.reduceAdd, Nat.reduceLeDiff, Nat.reduceSub, Nat.reduceMul, Int.reduceToNat, List.size_toArray, tyF, MM, bu0, cbU49, f8, f7, f6, f5, f2, f4, m2, m15, m5, m4, hAj, hgS]
  refine callP_frz qa ?_
  simp -dsimp -implicitDefEqProofs (disch := first | omega | (simp only [lenr]; try omega)) only [↓amPre, amAll, ↓reduceIte, reduceCtorEq, Nat.reduceEqDiff, Nat.reduceBEq, Nat.reduceAdd, Nat.reduceLeDiff, Nat.reduceSub, Nat.reduceMul, Int.reduceToNat, List.size_toArray, tyF, MM, bu0, cbU49, f8, f7, f6, f5, f2, f4, m2, m15, m5, m4, itrF, e1, islfz, ints_fz]
  refine callP_of (qi) ?_
  by_cases c3 : x ∈ E2.S
  · rw [if_pos c3] at hstF hstp
    have hix : ixK E2.S x = ((E2.S.idxOf x : Nat) : Int) := by unfold ixK; rw [if_pos c3]
    have hsF : innF p.mv (letL p.mv.length) k (E, false) (j + 1) = (inn p.mv (letL p.mv.length) k E (j + 1), false) := by rw [hstF, hstp]
    rw [hsF, hstp]
    simp -dsimp -implicitDefEqProofs (disch := first | omega | (simp only [lenr]; try omega)) only [↓amPre, amAll, ↓reduceIte, reduceCtorEq, Nat.reduceEqDiff, Nat.reduceBEq, Nat.reduceAdd, Nat.reduceLeDiff, Nat.reduceSub, Nat.reduceMul, Int.reduceToNat, List.size_toArray, tyF, MM, bu0, cbU49, f8, f7, f6, f5, f2, f4, m2, m15, m5, m4, hix]
    exact ⟨c2, by omega⟩
  have hix : ixK E2.S x = -1 := by unfold ixK; rw [if_neg c3]
  rw [if_neg c3] at hstF hstp
  by_cases c4 : E2.S.length = 3000
  · rw [if_pos c4] at hstF
    have h1 := hsty (by rw [hstF])
    rw [hstF] at h1
    have h2 := hend (by rw [h1])
    rw [h1] at h2
    rw [h2]
    simp -dsimp -implicitDefEqProofs (disch := first | omega | (simp only [lenr]; try omega)) only [↓amPre, amAll, ↓reduceIte, reduceCtorEq, Nat.reduceEqDiff, Nat.reduceBEq, Nat.reduceAdd, Nat.reduceLeDiff, Nat.reduceSub, Nat.reduceMul, Int.reduceToNat, List.size_toArray, tyF, MM, bu0, cbU49, f8, f7, f6, f5, f2, f4, m2, m15, m5, m4, hix, hsfl, c4]
  · rw [if_neg c4] at hstF
    have hE3 : inn p.mv (letL p.mv.length) k E (j + 1) = ⟨E2.S ++ [x], E2.D ++ [E2.D.getD k 0 + 1], E2.Pa ++ [k], E2.J ++ [j]⟩ := hstp
    have hsF : innF p.mv (letL p.mv.length) k (E, false) (j + 1) = (inn p.mv (letL p.mv.length) k E (j + 1), false) := by
      rw [hstF, hE3, Bf.stp, hnE2, ← hxx, if_neg c3]
    have hwr : IntKind.i64.wrap ((E2.D.getD k 0 : Nat) + 1 : Int) = ((E2.D.getD k 0 + 1 : Nat) : Int) := by
      have := hdl (by rw [hk2.lD]; exact hkE)
      rw [wrap64_id (by omega)]; rfl
    have qd := searchAdd N E2.S (cst E2.D) (srtS E2.S) false x ((E2.D.getD k 0 + 1 : Nat) : Int) hsrt hN2 hxok.1.1 h3j hlD
    have hfE : fT (E2.S ++ [x]) (cst E2.D ++ [((E2.D.getD k 0 + 1 : Nat) : Int)]) (insS E2.S (srtS E2.S) x) false = fE (inn p.mv (letL p.mv.length) k E (j + 1)) false := by
      rw [hE3, ← Bf.srtS_add]
      show fT _ _ _ _ = fT _ (cst (E2.D ++ [E2.D.getD k 0 + 1])) _ _
      rw [cst_app]; rfl
    rw [hfE] at qd
    rw [hsF]
    generalize inn p.mv (letL p.mv.length) k E (j + 1) = E3 at *
    have c4' : ¬ ((E2.S.length : Int) = 3000) := by omega
    simp -dsimp -implicitDefEqProofs (disch := first | omega | (simp only [lenr]; try omega)) only [↓amPre, amAll, ↓reduceIte, reduceCtorEq, Nat.reduceEqDiff, Nat.reduceBEq, Nat.reduceAdd, Nat.reduceLeDiff, Nat.reduceSub, Nat.reduceMul, Int.reduceToNat, List.size_toArray, tyF, MM, bu0, cbU49, f8, f7, f6, f5, f2, f4, m2, m15, m5, m4, hix, hsfl, c4']
    refine split_go 8 (by decide +kernel) ?_
    have hwr2 : IntKind.i64.wrap ((E2.D.getD k 0 + 1 : Nat) : Int) = ((E2.D.getD k 0 + 1 : Nat) : Int) := hwr
    have hDk2 : (cst E2.D).getD k 0 = ((E2.D.getD k 0 : Nat) : Int) := Ch.cst_get (by rw [hk2.lD]; exact hkE)
    simp -dsimp -implicitDefEqProofs (disch := first | omega | (simp only [lenr]; try omega)) only [↓amPre, amAll, ↓reduceIte, reduceCtorEq, Nat.reduceEqDiff, Nat.reduceBEq, Nat.reduceAdd, Nat.reduceLeDiff, Nat.reduceSub, Nat.reduceMul, Int.reduceToNat, List.size_toArray, tyF, MM, bu0, cbU49, f8, f7, f6, f5, f2, f4, m2, m15, m5, m4, hDk, hlD, hDk2, hwr, hwr2]
    refine callX_of (qd) ?_
    simp -dsimp -implicitDefEqProofs (disch := first | omega | (simp only [lenr]; try omega)) only [↓amPre, amAll, ↓reduceIte, reduceCtorEq, Nat.reduceEqDiff, Nat.reduceBEq, Nat.reduceAdd, Nat.reduceLeDiff, Nat.reduceSub, Nat.reduceMul, Int.reduceToNat, List.size_toArray, tyF, MM, bu0, cbU49, f8, f7, f6, f5, f2, f4, m2, m15, m5, m4]
    exact ⟨c2, by omega⟩
noncomputable def sR (p : Puzz) : Ex × Bool := if puzzOk p then ((outF p.mv (letL p.mv.length) p.n.toNat 3000).1, !(outF p.mv (letL p.mv.length) p.n.toNat 3000).2) else (⟨[], [], [], []⟩, false)
theorem searchStatesI (p : Puzz) (h : smallP p) : SpecAt Try.prog 146 [p.sl] (.tup [fE (sR p).1 (sR p).2, .bl (sR p).2]) := by
  have q0 := sPuzzle p h
  by_cases hd : puzzOk p
  case neg =>
    have hz : sR p = (⟨[], [], [], []⟩, false) := if_neg hd
    rw [decide_eq_false hd] at q0
    rw [hz]
    refine spec_of_awp_any (M := MM) (np := 1) (X := [3, 4]) (fz := false) mixed Try.func146 rfl rfl (by decide) rfl (Nat.le_refl _) (by decide +kernel) (.inl rfl) (by first | trivial | simp only [sigsOk_nil, sigsOk_some, sigsOk_none, sig_tr, sig_pt, sig_mt, sig_agg, List.map_cons, List.map_nil, sig1_tr, sig1_pt, sig1_v, and_self, true_and, List.length_map, List.length_set]) ?_
    simp -dsimp -implicitDefEqProofs (disch := first | omega | (simp only [lenr]; try omega)) only [↓amPre, amAll, ↓reduceIte, reduceCtorEq, Nat.reduceEqDiff, Nat.reduceBEq, Nat.reduceAdd, Nat.reduceLeDiff, Nat.reduceSub, Nat.reduceMul, Int.reduceToNat, List.size_toArray, tyF, MM, bu0, cbU49]
    refine callP_of (q0) ?_
    simp -dsimp -implicitDefEqProofs (disch := first | omega | (simp only [lenr]; try omega)) only [↓amPre, amAll, ↓reduceIte, reduceCtorEq, Nat.reduceEqDiff, Nat.reduceBEq, Nat.reduceAdd, Nat.reduceLeDiff, Nat.reduceSub, Nat.reduceMul, Int.reduceToNat, List.size_toArray, tyF, MM, bu0, cbU49]
    exact ⟨rfl, rfl⟩
  have hz : sR p = ((outF p.mv (letL p.mv.length) p.n.toNat 3000).1, !(outF p.mv (letL p.mv.length) p.n.toNat 3000).2) := if_pos hd
  have hn20 := hd.1.1
  obtain ⟨N, hNN⟩ : ∃ N : Nat, p.n = N := ⟨p.n.toNat, by omega⟩
  rw [show p.n.toNat = N by omega] at hz
  have q1 := searchFromI p N hNN hd
  rw [decide_eq_true hd] at q0
  have l0 := sIdentity N (by omega)
  have e1 : ∀ X : List Int, AV.fzL (X.map AV.i64) = X.map AV.i64 := fun X => by rw [fzL_map, ints_fz]
  rw [← hNN] at l0
  rw [hz]
  generalize (outF p.mv (letL p.mv.length) N 3000).1 = e at *
  generalize (!(outF p.mv (letL p.mv.length) N 3000).2) = b at *
  refine spec_of_awp_any (M := MM) (np := 1) (X := [3, 4]) (fz := false) mixed Try.func146 rfl rfl (by decide) rfl (Nat.le_refl _) (by decide +kernel) (.inl rfl) (by first | trivial | simp only [sigsOk_nil, sigsOk_some, sigsOk_none, sig_tr, sig_pt, sig_mt, sig_agg, List.map_cons, List.map_nil, sig1_tr, sig1_pt, sig1_v, and_self, true_and, List.length_map, List.length_set]) ?_
  simp -dsimp -implicitDefEqProofs (disch := first | omega | (simp only [lenr]; try omega)) only [↓amPre, amAll, ↓reduceIte, reduceCtorEq, Nat.reduceEqDiff, Nat.reduceBEq, Nat.reduceAdd, Nat.reduceLeDiff, Nat.reduceSub, Nat.reduceMul, Int.reduceToNat, List.size_toArray, tyF, MM, bu0, cbU49]
  refine callP_of (q0) ?_
  simp -dsimp -implicitDefEqProofs (disch := first | omega | (simp only [lenr]; try omega)) only [↓amPre, amAll, ↓reduceIte, reduceCtorEq, Nat.reduceEqDiff, Nat.reduceBEq, Nat.reduceAdd, Nat.reduceLeDiff, Nat.reduceSub, Nat.reduceMul, Int.reduceToNat, List.size_toArray, tyF, MM, bu0, cbU49]
  refine split_go 6 (by decide +kernel) ?_
  simp -dsimp -implicitDefEqProofs (disch := first | omega | (simp only [lenr]; try omega)) only [↓amPre, amAll, ↓reduceIte, reduceCtorEq, Nat.reduceEqDiff, Nat.reduceBEq, Nat.reduceAdd, Nat.reduceLeDiff, Nat.reduceSub, Nat.reduceMul, Int.reduceToNat, List.size_toArray, tyF, MM, bu0, cbU49]
  refine callP_frz l0 ?_
  simp -dsimp -implicitDefEqProofs (disch := first | omega | (simp only [lenr]; try omega)) only [↓amPre, amAll, ↓reduceIte, reduceCtorEq, Nat.reduceEqDiff, Nat.reduceBEq, Nat.reduceAdd, Nat.reduceLeDiff, Nat.reduceSub, Nat.reduceMul, Int.reduceToNat, List.size_toArray, tyF, MM, bu0, cbU49, itrF, e1]
  refine callP_of (q1) ?_
  simp -dsimp -implicitDefEqProofs (disch := first | omega | (simp only [lenr]; try omega)) only [↓amPre, amAll, ↓reduceIte, reduceCtorEq, Nat.reduceEqDiff, Nat.reduceBEq, Nat.reduceAdd, Nat.reduceLeDiff, Nat.reduceSub, Nat.reduceMul, Int.reduceToNat, List.size_toArray, tyF, MM, bu0, cbU49]
  refine lat_go [[], [], [1], [0], [0, 1, 2, 3]] [[3, 4], [2, 4], [4], [4], []] [0, 1, 2, 3, 4] (fun c st => st.fr 4 = .loc 4 [] 0 0 ∧ st.fr 2 = .loc 2 [] 0 0 ∧ (c 0 = true → c 3 = false → st.fr 14 = .agg [.ref 4 [(0, 0)] 1 0 e.S.length, .ref 4 [(0, 1)] 1 0 (cst e.D).length, .ref 4 [(0, 2)] 1 0 (cst (srtS e.S)).length, .bl b]) ∧ (c 1 = true → st.fr 15 = .loc 4 [] 0 3) ∧ (c 2 = true → st.fr 16 = .bl b) ∧ (c 4 = true → st.fr 3 = .bl b) ∧ st.mem 4 = some (bif c 3 then (.pt 4 (.agg [.any, .any, .any, .bl b])) else (.pt 4 (fE e b))) ∧ st.mem 2 = some (bif c 3 then (.pt 4 (fE e b)) else (.pt 4 zS))) (by decide +kernel) ?_ ?_ ?_
  · (try simp -dsimp -implicitDefEqProofs (disch := first | omega | (simp only [lenr]; try omega)) only [↓amPre, amAll, ↓reduceIte, reduceCtorEq, Nat.reduceEqDiff, Nat.reduceBEq, Nat.reduceAdd, Nat.reduceLeDiff, Nat.reduceSub, Nat.reduceMul, Int.reduceToNat, List.size_toArray, tyF, MM, bu0, cbU49, latj])
    all_goals (try (repeat' (first | apply And.intro | rfl | (intro _; rfl) | (intro _ _; rfl))))
  · refine ⟨?_, ?_, ?_, ?_, ?_, trivial⟩
    all_goals rintro c st R hC hJ hR
    all_goals simp only [latm] at hC
    all_goals rcases Bool.eq_false_or_eq_true (c 3) with hx3 | hx3
    all_goals simp only [hC, hx3, latj] at hJ
    all_goals simp -dsimp -implicitDefEqProofs (disch := first | omega | (simp only [lenr]; try omega)) only [↓amPre, amAll, ↓reduceIte, reduceCtorEq, Nat.reduceEqDiff, Nat.reduceBEq, Nat.reduceAdd, Nat.reduceLeDiff, Nat.reduceSub, Nat.reduceMul, Int.reduceToNat, List.size_toArray, tyF, MM, bu0, cbU49, hJ]
    all_goals refine hR _ ?_
    all_goals (simp +contextual -dsimp -implicitDefEqProofs only [amAll, ↓reduceIte, reduceCtorEq, Nat.reduceEqDiff, Nat.reduceBEq, Nat.reduceAdd, latj, hC, hJ, hx3]; try (repeat' (first | apply And.intro | rfl | (intro _; rfl) | (intro _ _; rfl))))
  intro c st hall hJ
  simp only [latm] at hall
  simp only [hall, latj] at hJ
  obtain ⟨f4, f2, f15, f16, f3, m4, m2⟩ := hJ
  clear hall
  simp -dsimp -implicitDefEqProofs (disch := first | omega | (simp only [lenr]; try omega)) only [↓amPre, amAll, ↓reduceIte, reduceCtorEq, Nat.reduceEqDiff, Nat.reduceBEq, Nat.reduceAdd, Nat.reduceLeDiff, Nat.reduceSub, Nat.reduceMul, Int.reduceToNat, List.size_toArray, tyF, MM, bu0, cbU49, f2, f3, m2]
end Sr
end Go.AM
set_option maxRecDepth 8000
namespace Go.AM
namespace Ck
open Go.Proofs
open Ch (PN pt idL cst cst_app cst_len)
open Bf (Ex inn stp nbr idxM nxR nxO byL)
abbrev exA (p : Puzz) (S : List (List Int)) (D : List Int) (M : Value → Option Value) (Pa By : List Int) (Nx : AV) : AV := .pt 9 (.agg [.i64 p.n, .st p.nm, ssl p.mv, sfr S, itr D, .mt true M, itr Pa, itr By, Nx])
abbrev nxT (Nx : List (List Nat)) : AV := .tr 1 (Nx.map fun r => itr (cst r))
noncomputable def exT (p : Puzz) (e : Ex) (Nx : List (List Nat)) : AV := .pt 9 (.agg [.i64 p.n, .st p.nm, ssl p.mv, sfr e.S, itr (cst e.D), .mt true (idxM e.S), itr (cst e.Pa), itr (byL (letL p.mv.length) e.J), .tr 1 (Nx.map fun r => itr (cst r))])
def nilPt : AV := .v (.pointer none)
theorem exploreNo (p : Puzz) (h : smallP p) (hs : ¬ (1 ≤ stN p ∧ stN p ≤ 3000)) : SpecAt Try.prog 136 [p.sl] (.tup [nilPt, .bl false]) := by
  have q0 := stateCountI p h
  have q1 := iwithin (stN p) 1 3000
  rw [show within (stN p) 1 3000 = false from within_not.2 (by omega)] at q1
  refine spec_of_awp_any (M := MM) (np := 1) (X := [4, 19, 21]) (fz := false) mixed Try.func136 rfl rfl (by decide) rfl (Nat.le_refl _) (by decide +kernel) (.inl rfl) (by first | trivial | simp only [sigsOk_nil, sigsOk_some, sigsOk_none, sig_tr, sig_pt, sig_mt, sig_agg, List.map_cons, List.map_nil, sig1_tr, sig1_pt, sig1_v, and_self, true_and, List.length_map, List.length_set]) ?_
  simp -dsimp -implicitDefEqProofs (disch := first | omega | (simp only [lenr]; try omega)) only [↓amPre, amAll, ↓reduceIte, reduceCtorEq, Nat.reduceEqDiff, Nat.reduceBEq, Nat.reduceAdd, Nat.reduceLeDiff, Nat.reduceSub, Nat.reduceMul, Int.reduceToNat, List.size_toArray, tyF, MM, bu0, cbU49]
  refine callP_of (q0) ?_
  simp -dsimp -implicitDefEqProofs (disch := first | omega | (simp only [lenr]; try omega)) only [↓amPre, amAll, ↓reduceIte, reduceCtorEq, Nat.reduceEqDiff, Nat.reduceBEq, Nat.reduceAdd, Nat.reduceLeDiff, Nat.reduceSub, Nat.reduceMul, Int.reduceToNat, List.size_toArray, tyF, MM, bu0, cbU49]
  refine callP_of (q1) ?_
  simp -dsimp -implicitDefEqProofs (disch := first | omega | (simp only [lenr]; try omega)) only [↓amPre, amAll, ↓reduceIte, reduceCtorEq, Nat.reduceEqDiff, Nat.reduceBEq, Nat.reduceAdd, Nat.reduceLeDiff, Nat.reduceSub, Nat.reduceMul, Int.reduceToNat, List.size_toArray, tyF, MM, bu0, cbU49]
  try rfl
set_option maxHeartbeats 16000000 in
theorem exploreYes (p : Puzz) (h : smallP p) (hs : 1 ≤ stN p ∧ stN p ≤ 3000) : SpecAt Try.prog 136 [p.sl] (.tup [exT p (Bf.out p.mv (letL p.mv.length) p.n.toNat 3000) (nxO p.mv (letL p.mv.length) p.n.toNat 3000), .bl true]) := by
  have q0 := stateCountI p h
  have q1 := iwithin (stN p) 1 3000
  rw [show within (stN p) 1 3000 = true from within_iff.2 (by omega)] at q1
  have hd : puzzOk p := by
    by_cases c : puzzOk p
    · exact c
    · rw [stN, if_neg c] at hs; omega
  have hpn := puzz_pn hd
  have hn20 := hd.1.1
  have hz : stN p = Ch.ordL (Ch.newL p.n.toNat p.mv) := if_pos hd
  obtain ⟨N, hNN⟩ : ∃ N : Nat, p.n = N := ⟨p.n.toNat, by omega⟩
  have hNt : p.n.toNat = N := by omega
  rw [hNt] at hpn hz ⊢
  have hN1 : 1 ≤ N := by omega
  have hN2 : N ≤ 20 := by omega
  have hA := letL_len p.mv.length
  have h8 := hd.1.2.1
  have l0 := iidentity N (by omega)
  rw [← hNN] at l0
  have hid := PN.one hN1 hN2
  have hsm : smallE (idL N) := Bf.PN.small hN2 hid
  have lk0 := stateKeyI (idL N) hsm (by rw [runI_len]; omega)
  have hup0 : updM (fun _ => none) (.string (skey (idL N))) (.int .i64 0) = idxM [idL N] := Bf.idxM_upd (S := []) (s := idL N) (fun t ht => by cases ht) hsm (by simp)
  have ll := lettersI p.mv.length h8
  have e1 : ∀ X : List Int, AV.fzL (X.map AV.i64) = X.map AV.i64 := fun X => by rw [fzL_map, ints_fz]
  have hpsl : p.sl = .agg [.i64 p.n, .st p.nm, ssl p.mv] := rfl
  refine spec_of_awp_any (M := MM) (np := 1) (X := [4, 19, 21]) (fz := false) mixed Try.func136 rfl rfl (by decide) rfl (Nat.le_refl _) (by decide +kernel) (.inl rfl) (by first | trivial | simp only [sigsOk_nil, sigsOk_some, sigsOk_none, sig_tr, sig_pt, sig_mt, sig_agg, List.map_cons, List.map_nil, sig1_tr, sig1_pt, sig1_v, and_self, true_and, List.length_map, List.length_set]) ?_
  simp -dsimp -implicitDefEqProofs (disch := first | omega | (simp only [lenr]; try omega)) only [↓amPre, amAll, ↓reduceIte, reduceCtorEq, Nat.reduceEqDiff, Nat.reduceBEq, Nat.reduceAdd, Nat.reduceLeDiff, Nat.reduceSub, Nat.reduceMul, Int.reduceToNat, List.size_toArray, tyF, MM, bu0, cbU49]
  refine callP_of (q0) ?_
  simp -dsimp -implicitDefEqProofs (disch := first | omega | (simp only [lenr]; try omega)) only [↓amPre, amAll, ↓reduceIte, reduceCtorEq, Nat.reduceEqDiff, Nat.reduceBEq, Nat.reduceAdd, Nat.reduceLeDiff, Nat.reduceSub, Nat.reduceMul, Int.reduceToNat, List.size_toArray, tyF, MM, bu0, cbU49]
  refine callP_of (q1) ?_
  simp -dsimp -implicitDefEqProofs (disch := first | omega | (simp only [lenr]; try omega)) only [↓amPre, amAll, ↓reduceIte, reduceCtorEq, Nat.reduceEqDiff, Nat.reduceBEq, Nat.reduceAdd, Nat.reduceLeDiff, Nat.reduceSub, Nat.reduceMul, Int.reduceToNat, List.size_toArray, tyF, MM, bu0, cbU49]
  refine callP_frz l0 ?_
  simp -dsimp -implicitDefEqProofs (disch := first | omega | (simp only [lenr]; try omega)) only [↓amPre, amAll, ↓reduceIte, reduceCtorEq, Nat.reduceEqDiff, Nat.reduceBEq, Nat.reduceAdd, Nat.reduceLeDiff, Nat.reduceSub, Nat.reduceMul, Int.reduceToNat, List.size_toArray, tyF, MM, bu0, cbU49, itrF, e1]
  refine any_fin (fun st => st.fr 1 = .loc 1 [] 0 0 ∧ st.fr 5 = .loc 32 [] 0 0 ∧ st.mem 1 = some (.pt 3 p.sl) ∧ st.mem 32 = some (.pt 9 (.agg [.i64 p.n, .st p.nm, ssl p.mv, sfr [idL N], itr [0], .mt true (idxM [idL N]), itr [0], itr [0], .nilsl]))) ?_ ?_
  · intro hfin
    refine lat_go [[], [], [1], [], [], [], [5], [4, 5, 6], [4, 5, 6, 7], [], [], [0, 1, 2, 3, 4, 5, 6, 7, 8, 9, 10], [0, 1, 2, 3, 4, 5, 6, 7, 8, 9, 10, 11], [0, 1, 2, 3, 4, 5, 6, 7, 8, 9, 10, 11, 12]] [[11, 12, 13], [2, 11, 12, 13], [11, 12, 13], [11, 12, 13], [7, 8, 11, 12, 13], [6, 7, 8, 11, 12, 13], [7, 8, 11, 12, 13], [8, 11, 12, 13], [11, 12, 13], [11, 12, 13], [11, 12, 13], [12, 13], [13], []] [0, 1, 2, 3, 4, 5, 6, 7, 8, 9, 10, 11, 12, 13] (fun c st => st.fr 1 = .loc 1 [] 0 0 ∧ st.fr 4 = isl (idL N) ∧ (c 0 = true → st.fr 21 = p.sl) ∧ (c 1 = true → st.fr 22 = isl (idL N)) ∧ (c 2 = true → c 12 = false → st.fr 23 = .ref 23 [] 1 0 1) ∧ (c 3 = true → c 12 = false → st.fr 24 = .ref 24 [] 1 0 1) ∧ (c 4 = true → c 12 = false → st.fr 25 = .mref 25 []) ∧ (c 5 = true → st.fr 26 = isl (idL N)) ∧ (c 6 = true → st.fr 27 = .v (.string (skey (idL N)))) ∧ (c 8 = true → c 12 = false → st.fr 28 = .mref 25 []) ∧ (c 9 = true → c 12 = false → st.fr 29 = .ref 29 [] 1 0 1) ∧ (c 10 = true → c 12 = false → st.fr 30 = .ref 30 [] 1 0 1) ∧ (c 11 = true → c 12 = false → st.fr 31 = .agg [.i64 p.n, .st p.nm, ssl p.mv, .ref 23 [] 1 0 1, .ref 24 [] 1 0 1, .mref 25 [], .ref 29 [] 1 0 1, .ref 30 [] 1 0 1, .nilsl]) ∧ (c 12 = true → st.fr 32 = .loc 32 [] 0 0) ∧ (c 13 = true → st.fr 5 = .loc 32 [] 0 0) ∧ st.mem 1 = some (.pt 3 p.sl) ∧ (c 2 = true → c 12 = false → st.mem 23 = some (sfr [idL N])) ∧ (c 3 = true → c 12 = false → st.mem 24 = some (itr [0])) ∧ (c 4 = true → c 7 = false → st.mem 25 = some (.mt true fun _ => none)) ∧ (c 7 = true → c 12 = false → st.mem 25 = some (.mt true (idxM [idL N]))) ∧ (c 9 = true → c 12 = false → st.mem 29 = some (itr [0])) ∧ (c 10 = true → c 12 = false → st.mem 30 = some (itr [0])) ∧ (c 12 = true → st.mem 32 = some (.pt 9 (.agg [.i64 p.n, .st p.nm, ssl p.mv, sfr [idL N], itr [0], .mt true (idxM [idL N]), itr [0], itr [0], .nilsl])))) (by decide +kernel) ?_ ?_ ?_
    · (try simp -dsimp -implicitDefEqProofs (disch := first | omega | (simp only [lenr]; try omega)) only [↓amPre, amAll, ↓reduceIte, reduceCtorEq, Nat.reduceEqDiff, Nat.reduceBEq, Nat.reduceAdd, Nat.reduceLeDiff, Nat.reduceSub, Nat.reduceMul, Int.reduceToNat, List.size_toArray, tyF, MM, bu0, cbU49, latj, hup0])
      all_goals (try (repeat' (first | apply And.intro | rfl | (intro _; rfl) | (intro _ _; rfl))))
    · refine ⟨?_, ?_, ?_, ?_, ?_, ?_, ?_, ?_, ?_, ?_, ?_, ?_, ?_, ?_, trivial⟩
      all_goals rintro c st R hC hJ hR
      all_goals simp only [latm] at hC
      all_goals simp only [hC, latj] at hJ
      all_goals simp -dsimp -implicitDefEqProofs (disch := first | omega | (simp only [lenr]; try omega)) only [↓amPre, amAll, ↓reduceIte, reduceCtorEq, Nat.reduceEqDiff, Nat.reduceBEq, Nat.reduceAdd, Nat.reduceLeDiff, Nat.reduceSub, Nat.reduceMul, Int.reduceToNat, List.size_toArray, tyF, MM, bu0, cbU49, hJ, hup0]
      all_goals (try (refine callP_of lk0 ?_; simp -dsimp -implicitDefEqProofs (disch := first | omega | (simp only [lenr]; try omega)) only [↓amPre, amAll, ↓reduceIte, reduceCtorEq, Nat.reduceEqDiff, Nat.reduceBEq, Nat.reduceAdd, Nat.reduceLeDiff, Nat.reduceSub, Nat.reduceMul, Int.reduceToNat, List.size_toArray, tyF, MM, bu0, cbU49, hJ, hup0]))
      all_goals refine hR _ ?_
      all_goals (simp +contextual -dsimp -implicitDefEqProofs only [amAll, ↓reduceIte, reduceCtorEq, Nat.reduceEqDiff, Nat.reduceBEq, Nat.reduceAdd, latj, hC, hJ, hup0]; try (repeat' (first | apply And.intro | rfl | (intro _; rfl) | (intro _ _; rfl))))
    intro c st hall hJ
    simp only [latm] at hall
    simp only [hall, latj] at hJ
    obtain ⟨f1, f4, f21, f22, f26, f27, f32, f5, m1, m32⟩ := hJ
    clear hall
    exact hfin st ⟨f1, f5, m1, m32⟩
  rintro st ⟨f1, f5, m1, m32⟩
  have hok := fun k => (Bf.out_ok hN1 hN2 hpn k).1
  have hle := fun k => Bf.out_le hN1 hN2 hpn k
  simp -dsimp -implicitDefEqProofs (disch := first | omega | (simp only [lenr]; try omega)) only [↓amPre, amAll, ↓reduceIte, reduceCtorEq, Nat.reduceEqDiff, Nat.reduceBEq, Nat.reduceAdd, Nat.reduceLeDiff, Nat.reduceSub, Nat.reduceMul, Int.reduceToNat, List.size_toArray, tyF, MM, bu0, cbU49, f1, f5, m1, hpsl]
  refine callP_of (ll) ?_
  simp -dsimp -implicitDefEqProofs (disch := first | omega | (simp only [lenr]; try omega)) only [↓amPre, amAll, ↓reduceIte, reduceCtorEq, Nat.reduceEqDiff, Nat.reduceBEq, Nat.reduceAdd, Nat.reduceLeDiff, Nat.reduceSub, Nat.reduceMul, Int.reduceToNat, List.size_toArray, tyF, MM, bu0, cbU49, f1, f5, m1, m32, hA]
  skip
  refine awp_loopC 32 8 9 1 [.i64 p.n, .st p.nm, ssl p.mv, sfr [idL N], itr [0], .mt true (idxM [idL N]), itr [0], itr [0], .nilsl] (by simp -dsimp -implicitDefEqProofs (disch := first | omega | (simp only [lenr]; try omega)) only [↓amPre, amAll, ↓reduceIte, reduceCtorEq, Nat.reduceEqDiff, Nat.reduceBEq, Nat.reduceAdd, Nat.reduceLeDiff, Nat.reduceSub, Nat.reduceMul, Int.reduceToNat, List.size_toArray, tyF, MM, bu0, cbU49, f1, f5, m1, m32]) (by simp) (by simp) (fun k st => k ≤ 3000 ∧ st.fr 7 = .i64 k ∧ st.fr 6 = .ref 36 [] 1 0 (2 * p.mv.length) ∧ st.fr 5 = .loc 32 [] 0 0 ∧ st.fr 1 = .loc 1 [] 0 0 ∧ st.mem 1 = some (.pt 3 p.sl) ∧ st.mem 36 = some (itr (letL p.mv.length)) ∧ st.mem 32 = some (exA p (Bf.out p.mv (letL p.mv.length) N k).S (cst (Bf.out p.mv (letL p.mv.length) N k).D) (idxM (Bf.out p.mv (letL p.mv.length) N k).S) (cst (Bf.out p.mv (letL p.mv.length) N k).Pa) (byL (letL p.mv.length) (Bf.out p.mv (letL p.mv.length) N k).J) (nxT (nxO p.mv (letL p.mv.length) N k))) ∧ (k ≤ (Bf.out p.mv (letL p.mv.length) N k).S.length)) (3000) ?_ ?_
  · simp -dsimp -implicitDefEqProofs (disch := first | omega | (simp only [lenr]; try omega)) only [↓amPre, amAll, ↓reduceIte, reduceCtorEq, Nat.reduceEqDiff, Nat.reduceBEq, Nat.reduceAdd, Nat.reduceLeDiff, Nat.reduceSub, Nat.reduceMul, Int.reduceToNat, List.size_toArray, tyF, MM, bu0, cbU49, nilC_eq, f1, f5, m1, m32]
    exact ⟨rfl, rfl, Nat.zero_le _⟩
  rintro k st _ ⟨hk, f7, f6, f5, f1, m1, m36, m32, ek⟩
  have hk0 := hok k
  have hlek := hle k
  by_cases c1 : k < (Bf.out p.mv (letL p.mv.length) N k).S.length
  case neg =>
    have hend : Bf.out p.mv (letL p.mv.length) N k = Bf.out p.mv (letL p.mv.length) N 3000 ∧ nxO p.mv (letL p.mv.length) N k = nxO p.mv (letL p.mv.length) N 3000 := by
      have a := Bf.out_stay (mv := p.mv) (A := letL p.mv.length) (n := N) (k := k) (by omega) (3000 - k)
      have b := Bf.nxO_stay (mv := p.mv) (A := letL p.mv.length) (n := N) (k := k) (by omega) (3000 - k)
      rw [show k + (3000 - k) = 3000 by omega] at a b
      exact ⟨a.symm, b.symm⟩
    simp -dsimp -implicitDefEqProofs (disch := first | omega | (simp only [lenr]; try omega)) only [↓amPre, amAll, ↓reduceIte, reduceCtorEq, Nat.reduceEqDiff, Nat.reduceBEq, Nat.reduceAdd, Nat.reduceLeDiff, Nat.reduceSub, Nat.reduceMul, Int.reduceToNat, List.size_toArray, tyF, MM, bu0, cbU49, f7, f6, f5, f1, m1, m36, m32]
    rw [hend.1, hend.2]
    rfl
  have hsk := hk0.el _ (mem_getD _ k default c1)
  have qn := neighborsI p N ((Bf.out p.mv (letL p.mv.length) N k).S.getD k default) hNN hd.1 hsk.1
  have hnl := nbL_len p.mv ((Bf.out p.mv (letL p.mv.length) N k).S.getD k default) (Nat.le_refl (2 * p.mv.length))
  have hnx1 : nxO p.mv (letL p.mv.length) N (k + 1) = nxO p.mv (letL p.mv.length) N k ++ [nxR p.mv (letL p.mv.length) k (Bf.out p.mv (letL p.mv.length) N k) (2 * p.mv.length)] := by rw [nxO, if_pos c1, hA]
  have hou1 : Bf.out p.mv (letL p.mv.length) N (k + 1) = inn p.mv (letL p.mv.length) k (Bf.out p.mv (letL p.mv.length) N k) (2 * p.mv.length) := by rw [Bf.out, if_pos c1, hA]
  have hinn := fun j hj => Bf.inn_ok hN1 hN2 hpn hk0 c1 j hj
  have hing := fun j => Bf.inn_grw p.mv (letL p.mv.length) k (Bf.out p.mv (letL p.mv.length) N k) j
  have hinl := fun j hj => Bf.inn_le hN1 hN2 hpn hk0 c1 (j := j) hj
  have hngt := fun j hj => nbL_get p.mv ((Bf.out p.mv (letL p.mv.length) N k).S.getD k default) (k := j) hj
  rw [hA] at qn hngt hinn hinl
  rw [hou1, hnx1]
  obtain ⟨Nx, hNx⟩ : ∃ Nx, Nx = nxO p.mv (letL p.mv.length) N k := ⟨_, rfl⟩
  have hnxl : Nx.length = k := by rw [hNx]; exact Bf.nxO_lt ek
  rw [← hNx] at m32 ⊢
  obtain ⟨E, hE⟩ : ∃ E, E = Bf.out p.mv (letL p.mv.length) N k := ⟨_, rfl⟩
  rw [← hE] at m32 hk0 hlek c1 hsk qn hnl hinn hing hinl hngt ⊢
  obtain ⟨A, hAA⟩ : ∃ A, A = letL p.mv.length := ⟨_, rfl⟩
  rw [← hAA] at hA m36 m32 hinn hing hinl hngt ⊢
  obtain ⟨nb, hnb⟩ : ∃ nb, nb = nbL p.mv (E.S.getD k default) (2 * p.mv.length) := ⟨_, rfl⟩
  rw [← hnb] at qn hnl hngt
  have hfz : ∀ L : List (List Int), AV.fzL (L.map fun x => isl x) = L.map fun x => isl x := fun L => by rw [fzL_map, islfz]
  simp -dsimp -implicitDefEqProofs (disch := first | omega | (simp only [lenr]; try omega)) only [↓amPre, amAll, ↓reduceIte, reduceCtorEq, Nat.reduceEqDiff, Nat.reduceBEq, Nat.reduceAdd, Nat.reduceLeDiff, Nat.reduceSub, Nat.reduceMul, Int.reduceToNat, List.size_toArray, tyF, MM, bu0, cbU49, f7, f6, f5, f1, m1, m36, m32]
  refine callP_frz qn ?_
  have hnb2 : AV.fz (sfr nb) = ssl nb := by rw [AV.fz, hfz]
  simp -dsimp -implicitDefEqProofs (disch := first | omega | (simp only [lenr]; try omega)) only [↓amPre, amAll, ↓reduceIte, reduceCtorEq, Nat.reduceEqDiff, Nat.reduceBEq, Nat.reduceAdd, Nat.reduceLeDiff, Nat.reduceSub, Nat.reduceMul, Int.reduceToNat, List.size_toArray, tyF, MM, bu0, cbU49, f7, f6, f5, f1, m1, m36, m32, hnb2, hnl]
  refine awp_loopN 8 138 1 (by simp -dsimp -implicitDefEqProofs (disch := first | omega | (simp only [lenr]; try omega)) only [↓amPre, amAll, ↓reduceIte, reduceCtorEq, Nat.reduceEqDiff, Nat.reduceBEq, Nat.reduceAdd, Nat.reduceLeDiff, Nat.reduceSub, Nat.reduceMul, Int.reduceToNat, List.size_toArray, tyF, MM, bu0, cbU49, f7, f6, f5, f1, m1, m36, m32]) (by decide) (fun j st => j ≤ (2 * p.mv.length) ∧ st.fr 56 = .i64 j ∧ st.fr 55 = .i64 (2 * p.mv.length : Nat) ∧ st.fr 54 = ssl nb ∧ st.fr 8 = .ref 138 [] 1 0 j ∧ st.fr 7 = .i64 k ∧ st.fr 6 = .ref 36 [] 1 0 (2 * p.mv.length) ∧ st.fr 5 = .loc 32 [] 0 0 ∧ st.fr 1 = .loc 1 [] 0 0 ∧ st.mem 138 = some (itr (cst (nxR p.mv A k E j))) ∧ st.mem 1 = some (.pt 3 p.sl) ∧ st.mem 36 = some (itr A) ∧ st.mem 32 = some (exA p (inn p.mv A k E j).S (cst (inn p.mv A k E j).D) (idxM (inn p.mv A k E j).S) (cst (inn p.mv A k E j).Pa) (byL A (inn p.mv A k E j).J) (nxT Nx))) ((2 * p.mv.length)) ?_ ?_
  · simp -dsimp -implicitDefEqProofs (disch := first | omega | (simp only [lenr]; try omega)) only [↓amPre, amAll, ↓reduceIte, reduceCtorEq, Nat.reduceEqDiff, Nat.reduceBEq, Nat.reduceAdd, Nat.reduceLeDiff, Nat.reduceSub, Nat.reduceMul, Int.reduceToNat, List.size_toArray, tyF, MM, bu0, cbU49, f7, f6, f5, f1, m1, m36, m32, nilAs_eq]
    exact ⟨Nat.zero_le _, rfl, rfl, rfl⟩
  rintro j st _ ⟨hj, f56, f55, f54, f8, f7, f6, f5, f1, m138, m1, m36, m32⟩
  have hrl := Bf.nxR_len p.mv A k E j
  by_cases c2 : j < 2 * p.mv.length
  case neg =>
    have hje : j = 2 * p.mv.length := by omega
    subst hje
    have hrl2 : (cst (nxR p.mv A k E (2 * p.mv.length))).length = 2 * p.mv.length := by rw [cst_len, hrl]
    simp -dsimp -implicitDefEqProofs (disch := first | omega | (simp only [lenr]; try omega)) only [↓amPre, amAll, ↓reduceIte, reduceCtorEq, Nat.reduceEqDiff, Nat.reduceBEq, Nat.reduceAdd, Nat.reduceLeDiff, Nat.reduceSub, Nat.reduceMul, Int.reduceToNat, List.size_toArray, tyF, MM, bu0, cbU49, f56, f55, f54, f8, f7, f6, f5, f1, m138, m1, m36, m32, hrl2]
    have := (hing (2 * p.mv.length)).len
    exact ⟨by omega, by omega, by omega⟩
  obtain ⟨hk2, _⟩ := hinn j (by omega)
  have hk3 := (hinn (j + 1) (by omega)).1
  have hgj := hing j
  have hlj := hinl j (by omega)
  have hlj1 := hinl (j + 1) (by omega)
  have hx := hngt j c2
  have hstp : inn p.mv A k E (j + 1) = stp p.mv A k (inn p.mv A k E j) j := rfl
  have hrs : nxR p.mv A k E (j + 1) = nxR p.mv A k E j ++ [(inn p.mv A k E (j + 1)).S.idxOf (nbr p.mv E k (A.getD j 0))] := rfl
  obtain ⟨E3, hE3⟩ : ∃ E3, E3 = inn p.mv A k E (j + 1) := ⟨_, rfl⟩
  rw [← hE3] at hk3 hlj1 hstp hrs ⊢
  obtain ⟨E2, hE2⟩ : ∃ E2, E2 = inn p.mv A k E j := ⟨_, rfl⟩
  rw [← hE2] at hk2 hgj hlj hstp m32
  have hkE := Nat.lt_of_lt_of_le c1 hgj.len
  have hgk := hgj.get c1
  have hnE : nbr p.mv E k (A.getD j 0) = compI (E.S.getD k default) (letP p.mv (A.getD j 0)) := rfl
  have hnE2 : nbr p.mv E2 k (A.getD j 0) = compI (E.S.getD k default) (letP p.mv (A.getD j 0)) := by rw [← hgk]
  rw [hnE] at hrs
  have hxA : A.getD j 0 ∈ letL p.mv.length := by rw [← hAA]; exact mem_getD A j 0 (by omega)
  have hxok := Bf.nbr_ok hN1 hN2 hpn hsk hxA
  have hxs := Bf.PN.small hN2 hxok.1
  obtain ⟨rw1, hrw1⟩ : ∃ r, r = nxR p.mv A k E j := ⟨_, rfl⟩
  rw [← hrw1] at hrl hrs m138
  obtain ⟨rw3, hrw3⟩ : ∃ r, r = nxR p.mv A k E (j + 1) := ⟨_, rfl⟩
  rw [← hrw3] at hrs ⊢
  unfold Bf.stp at hstp
  rw [hnE2] at hstp
  have hgx : nb.getD j default = compI (E.S.getD k default) (letP p.mv (A.getD j 0)) := hx
  have hgl : (nb.map fun x => isl x).getD j .any = isl (compI (E.S.getD k default) (letP p.mv (A.getD j 0))) := by rw [getD_eq _ _ _ (by simpa [hnl] using c2), List.getElem_map, ← hgx, getD_eq _ _ _ (by rw [hnl]; exact c2)]
  obtain ⟨x, hxx⟩ : ∃ x, x = compI (E.S.getD k default) (letP p.mv (A.getD j 0)) := ⟨_, rfl⟩
  rw [← hxx] at hgl hstp hrs hxok hxs
  have qk := stateKeyI x hxs (by have := hxok.1.1; omega)
  have hlk := Bf.idxM_at (S := E2.S) (s := x) (fun t ht => Bf.PN.small hN2 (hk2.el t ht).1) hxs
  have hAj : (A.map AV.i64).getD j .any = .i64 (A.getD j 0) := by rw [getD_eq _ _ _ (by simpa [hA] using c2), List.getElem_map, ← getD_eq _ _ 0]
  have hDk : ((cst E2.D).map AV.i64).getD k .any = .i64 (E2.D.getD k 0 : Nat) := by rw [getD_eq _ _ _ (by rw [List.length_map, cst_len, hk2.lD]; exact hkE), List.getElem_map, ← getD_eq _ _ 0, Ch.cst_get (by rw [hk2.lD]; exact hkE)]
  have hlD : (cst E2.D).length = E2.S.length := by rw [cst_len, hk2.lD]
  have hlP : (cst E2.Pa).length = E2.S.length := by rw [cst_len, hk2.lP]
  have hlJ : (byL A E2.J).length = E2.S.length := by rw [Bf.byL_len, hk2.lJ]
  have hbS := hlj
  by_cases c3 : x ∈ E2.S
  · rw [if_pos c3] at hstp hlk
    subst hstp
    have hre : cst rw1 ++ [((E3.S.idxOf x : Nat) : Int)] = cst rw3 := by rw [hrs, cst_app]; rfl
    have hlr1 : (cst rw1).length = j := by rw [cst_len, hrl]
    simp -dsimp -implicitDefEqProofs (disch := first | omega | (simp only [lenr]; try omega)) only [↓amPre, amAll, ↓reduceIte, reduceCtorEq, Nat.reduceEqDiff, Nat.reduceBEq, Nat.reduceAdd, Nat.reduceLeDiff, Nat.reduceSub, Nat.reduceMul, Int.reduceToNat, List.size_toArray, tyF, MM, bu0, cbU49, f56, f55, f54, f8, f7, f6, f5, f1, m138, m1, m36, m32, hgl, hnl]
    refine callP_of (qk) ?_
    simp -dsimp -implicitDefEqProofs (disch := first | omega | (simp only [lenr]; try omega)) only [↓amPre, amAll, ↓reduceIte, reduceCtorEq, Nat.reduceEqDiff, Nat.reduceBEq, Nat.reduceAdd, Nat.reduceLeDiff, Nat.reduceSub, Nat.reduceMul, Int.reduceToNat, List.size_toArray, tyF, MM, bu0, cbU49, f56, f55, f54, f8, f7, f6, f5, f1, m138, m1, m36, m32, hlk]
    exact ⟨c2, by omega, by rw [hlr1], by rw [← hre]⟩
  · rw [if_neg c3] at hstp hlk
    have hup := Bf.idxM_upd (S := E2.S) (s := x) (fun t ht => Bf.PN.small hN2 (hk2.el t ht).1) hxs c3
    have hE3S : E3.S = E2.S ++ [x] := by rw [hstp]
    have hE3D : cst E2.D ++ [((E2.D.getD k 0 + 1 : Nat) : Int)] = cst E3.D := by rw [hstp, cst_app]; rfl
    have hE3P : cst E2.Pa ++ [(k : Int)] = cst E3.Pa := by rw [hstp, cst_app]; rfl
    have hE3J : byL A E2.J ++ [A.getD j 0] = byL A E3.J := by rw [hstp]; exact (Bf.byL_app A (by rw [hk2.lJ]; omega) j).symm
    have hE3l : E3.S.length = E2.S.length + 1 := by rw [hE3S]; simp
    have hlD3 : (cst E3.D).length = E2.S.length + 1 := by rw [cst_len, hk3.lD, hE3l]
    have hlP3 : (cst E3.Pa).length = E2.S.length + 1 := by rw [cst_len, hk3.lP, hE3l]
    have hlJ3 : (byL A E3.J).length = E2.S.length + 1 := by rw [Bf.byL_len, hk3.lJ, hE3l]
    rw [← hE3S] at hup
    have hSS : (E2.S.map fun x => isl x) ++ [isl x] = E3.S.map fun x => isl x := by rw [hE3S]; simp
    have hix : E3.S.idxOf x = E2.S.length := by rw [hE3S, List.idxOf_append, if_neg c3]; simp
    have hre : cst rw1 ++ [((E2.S.length : Nat) : Int)] = cst rw3 := by rw [hrs, hix, cst_app]; rfl
    have hlr1 : (cst rw1).length = j := by rw [cst_len, hrl]
    have ql := lenSS E2.S
    clear hstp
    have hDle := Bf.inn_dle (mv := p.mv) (A := A) (e := E) (fun i hi => by rw [hE]; rw [hE] at hi; exact Bf.out_dle _ _ _ _ i hi) (k := k) (by rw [hk0.lD]; exact c1) j k (by rw [← hE2, hk2.lD]; exact hkE)
    rw [← hE2] at hDle
    have hwr : IntKind.i64.wrap ((E2.D.getD k 0 : Nat) + 1 : Int) = ((E2.D.getD k 0 + 1 : Nat) : Int) := by rw [wrap64_id (by omega)]; rfl
    simp -dsimp -implicitDefEqProofs (disch := first | omega | (simp only [lenr]; try omega)) only [↓amPre, amAll, ↓reduceIte, reduceCtorEq, Nat.reduceEqDiff, Nat.reduceBEq, Nat.reduceAdd, Nat.reduceLeDiff, Nat.reduceSub, Nat.reduceMul, Int.reduceToNat, List.size_toArray, tyF, MM, bu0, cbU49, f56, f55, f54, f8, f7, f6, f5, f1, m138, m1, m36, m32, hgl, hnl]
    refine callP_of (qk) ?_
    simp -dsimp -implicitDefEqProofs (disch := first | omega | (simp only [lenr]; try omega)) only [↓amPre, amAll, ↓reduceIte, reduceCtorEq, Nat.reduceEqDiff, Nat.reduceBEq, Nat.reduceAdd, Nat.reduceLeDiff, Nat.reduceSub, Nat.reduceMul, Int.reduceToNat, List.size_toArray, tyF, MM, bu0, cbU49, f56, f55, f54, f8, f7, f6, f5, f1, m138, m1, m36, m32, hlk, islfz]
    refine callP_of (ql) ?_
    simp -dsimp -implicitDefEqProofs (disch := first | omega | (simp only [lenr]; try omega)) only [↓amPre, amAll, ↓reduceIte, reduceCtorEq, Nat.reduceEqDiff, Nat.reduceBEq, Nat.reduceAdd, Nat.reduceLeDiff, Nat.reduceSub, Nat.reduceMul, Int.reduceToNat, List.size_toArray, tyF, MM, bu0, cbU49, f56, f55, f54, f8, f7, f6, f5, f1, m138, m1, m36, m32, hup, hSS, hE3l]
    refine lat_go [[], [], [1], [1, 2], [1, 2, 3], [], [5], [5, 6], [5, 6, 7], [], [5, 6, 7, 8, 9], [5, 6, 7, 8, 9, 10], [5, 6, 7, 8, 9, 10, 11], [5, 6, 7, 8, 9, 10, 11, 12], [1, 2, 3, 4, 5, 6, 7, 8, 9, 10, 11, 12, 13], [0, 1, 2, 3, 4, 5, 6, 7, 8, 9, 10, 11, 12, 13, 14], [0, 1, 2, 3, 4, 5, 6, 7, 8, 9, 10, 11, 12, 13, 14, 15], [0, 1, 2, 3, 4, 5, 6, 7, 8, 9, 10, 11, 12, 13, 14, 15, 16]] [[15, 16, 17], [2, 3, 4, 14, 15, 16, 17], [3, 4, 14, 15, 16, 17], [4, 14, 15, 16, 17], [14, 15, 16, 17], [6, 7, 8, 10, 11, 12, 13, 14, 15, 16, 17], [7, 8, 10, 11, 12, 13, 14, 15, 16, 17], [8, 10, 11, 12, 13, 14, 15, 16, 17], [10, 11, 12, 13, 14, 15, 16, 17], [10, 11, 12, 13, 14, 15, 16, 17], [11, 12, 13, 14, 15, 16, 17], [12, 13, 14, 15, 16, 17], [13, 14, 15, 16, 17], [14, 15, 16, 17], [15, 16, 17], [16, 17], [17], []] [0, 1, 2, 3, 4, 5, 6, 7, 8, 9, 10, 11, 12, 13, 14, 15, 16, 17] (fun c st => st.fr 56 = .i64 j ∧ st.fr 55 = .i64 (2 * p.mv.length : Nat) ∧ st.fr 54 = ssl nb ∧ st.fr 8 = .ref 138 [] 1 0 j ∧ st.fr 7 = .i64 k ∧ st.fr 6 = .ref 36 [] 1 0 (2 * p.mv.length) ∧ st.fr 5 = .loc 32 [] 0 0 ∧ st.fr 1 = .loc 1 [] 0 0 ∧ st.fr 9 = .i64 j ∧ st.fr 12 = .i64 (E2.S.length : Nat) ∧ (c 0 = true → st.fr 95 = .loc 32 [] 0 0) ∧ (c 1 = true → st.fr 96 = .loc 32 [] 0 0) ∧ (c 2 = true → st.fr 97 = .loc 32 [] 0 0) ∧ (c 3 = true → st.fr 98 = .loc 32 [] 0 4) ∧ (c 4 = true → c 14 = false → st.fr 99 = .ref 32 [(0, 4)] 1 0 E2.S.length) ∧ (c 5 = true → st.fr 100 = .loc 32 [] 0 0) ∧ (c 6 = true → st.fr 101 = .loc 32 [] 0 0) ∧ (c 7 = true → st.fr 102 = .loc 32 [] 0 4) ∧ (c 8 = true → c 14 = false → st.fr 103 = .ref 32 [(0, 4)] 1 0 E2.S.length) ∧ (c 9 = true → st.fr 104 = .i64 k) ∧ (c 10 = true → c 14 = false → st.fr 105 = .loc 32 [(0, 4)] k 0) ∧ (c 11 = true → st.fr 106 = .i64 (E2.D.getD k 0 : Nat)) ∧ (c 12 = true → st.fr 107 = .i64 ((E2.D.getD k 0 + 1 : Nat) : Int)) ∧ (c 13 = true → st.fr 108 = .ref 108 [] 1 0 1) ∧ (c 14 = true → c 17 = false → st.fr 109 = .ref 109 [] 1 0 (E2.S.length + 1)) ∧ (c 15 = true → st.fr 110 = .loc 32 [] 0 0) ∧ (c 16 = true → st.fr 111 = .loc 32 [] 0 4) ∧ st.mem 138 = some (itr (cst rw1)) ∧ st.mem 1 = some (.pt 3 p.sl) ∧ st.mem 36 = some (itr A) ∧ st.mem 32 = some (bif c 17 then (exA p E3.S (cst E3.D) (idxM E3.S) (cst E2.Pa) (byL A E2.J) (nxT Nx)) else (bif c 14 then (.pt 9 (.agg [.i64 p.n, .st p.nm, ssl p.mv, sfr E3.S, .any, .mt true (idxM E3.S), itr (cst E2.Pa), itr (byL A E2.J), nxT Nx])) else (exA p E3.S (cst E2.D) (idxM E3.S) (cst E2.Pa) (byL A E2.J) (nxT Nx)))) ∧ (c 13 = true → st.mem 108 = some (itr [((E2.D.getD k 0 + 1 : Nat) : Int)])) ∧ (c 14 = true → c 17 = false → st.mem 109 = some (itr (cst E3.D)))) (by decide +kernel) ?_ ?_ ?_
    · (try simp -dsimp -implicitDefEqProofs (disch := first | omega | (simp only [lenr]; try omega)) only [↓amPre, amAll, ↓reduceIte, reduceCtorEq, Nat.reduceEqDiff, Nat.reduceBEq, Nat.reduceAdd, Nat.reduceLeDiff, Nat.reduceSub, Nat.reduceMul, Int.reduceToNat, List.size_toArray, tyF, MM, bu0, cbU49, latj, hDk, hlD, hlD3, hE3D, hwr, f56, f55, f54, f8, f7, f6, f5, f1, m138, m1, m36, m32])
      all_goals (try (repeat' (first | apply And.intro | rfl | (intro _; rfl) | (intro _ _; rfl))))
    · refine ⟨?_, ?_, ?_, ?_, ?_, ?_, ?_, ?_, ?_, ?_, ?_, ?_, ?_, ?_, ?_, ?_, ?_, ?_, trivial⟩
      all_goals rintro c st R hC hJ hR
      all_goals simp only [latm] at hC
      all_goals rcases Bool.eq_false_or_eq_true (c 14) with hx14 | hx14
      all_goals simp only [hC, hx14, latj] at hJ
      all_goals simp -dsimp -implicitDefEqProofs (disch := first | omega | (simp only [lenr]; try omega)) only [↓amPre, amAll, ↓reduceIte, reduceCtorEq, Nat.reduceEqDiff, Nat.reduceBEq, Nat.reduceAdd, Nat.reduceLeDiff, Nat.reduceSub, Nat.reduceMul, Int.reduceToNat, List.size_toArray, tyF, MM, bu0, cbU49, hJ, hDk, hlD, hlD3, hE3D, hwr]
      all_goals refine hR _ ?_
      all_goals (simp +contextual -dsimp -implicitDefEqProofs only [amAll, ↓reduceIte, reduceCtorEq, Nat.reduceEqDiff, Nat.reduceBEq, Nat.reduceAdd, latj, hC, hJ, hx14, hDk, hlD, hlD3, hE3D, hwr]; try (repeat' (first | apply And.intro | rfl | (intro _; rfl) | (intro _ _; rfl))))
    intro c st hall hJ
    simp only [latm] at hall
    simp only [hall, latj] at hJ
    obtain ⟨f56, f55, f54, f8, f7, f6, f5, f1, f9, f12, f95, f96, f97, f98, f100, f101, f102, f104, f106, f107, f108, f110, f111, m138, m1, m36, m32, m108⟩ := hJ
    clear hall
    simp -dsimp -implicitDefEqProofs (disch := first | omega | (simp only [lenr]; try omega)) only [↓amPre, amAll, ↓reduceIte, reduceCtorEq, Nat.reduceEqDiff, Nat.reduceBEq, Nat.reduceAdd, Nat.reduceLeDiff, Nat.reduceSub, Nat.reduceMul, Int.reduceToNat, List.size_toArray, tyF, MM, bu0, cbU49, f1, f5, f6, f7, f8, f9, f12, f54, f55, f56, m1, m32, m36, m138, hlP, hE3P, hlP3]
    refine lat_go [[], [], [1], [1, 2], [1, 2, 3], [], [], [5, 6], [5, 6, 7], [5, 6, 7, 8], [1, 2, 3, 4, 5, 6, 7, 8, 9], [0, 1, 2, 3, 4, 5, 6, 7, 8, 9, 10], [0, 1, 2, 3, 4, 5, 6, 7, 8, 9, 10, 11], [0, 1, 2, 3, 4, 5, 6, 7, 8, 9, 10, 11, 12]] [[11, 12, 13], [2, 3, 4, 10, 11, 12, 13], [3, 4, 10, 11, 12, 13], [4, 10, 11, 12, 13], [10, 11, 12, 13], [7, 8, 9, 10, 11, 12, 13], [7, 8, 9, 10, 11, 12, 13], [8, 9, 10, 11, 12, 13], [9, 10, 11, 12, 13], [10, 11, 12, 13], [11, 12, 13], [12, 13], [13], []] [0, 1, 2, 3, 4, 5, 6, 7, 8, 9, 10, 11, 12, 13] (fun c st => st.fr 56 = .i64 j ∧ st.fr 55 = .i64 (2 * p.mv.length : Nat) ∧ st.fr 54 = ssl nb ∧ st.fr 8 = .ref 138 [] 1 0 j ∧ st.fr 7 = .i64 k ∧ st.fr 6 = .ref 36 [] 1 0 (2 * p.mv.length) ∧ st.fr 5 = .loc 32 [] 0 0 ∧ st.fr 1 = .loc 1 [] 0 0 ∧ st.fr 9 = .i64 j ∧ st.fr 12 = .i64 (E2.S.length : Nat) ∧ (c 0 = true → st.fr 122 = .loc 32 [] 0 0) ∧ (c 1 = true → st.fr 123 = .loc 32 [] 0 0) ∧ (c 2 = true → st.fr 124 = .loc 32 [] 0 0) ∧ (c 3 = true → st.fr 125 = .loc 32 [] 0 7) ∧ (c 4 = true → c 10 = false → st.fr 126 = .ref 32 [(0, 7)] 1 0 E2.S.length) ∧ (c 5 = true → st.fr 127 = .ref 36 [] 1 0 (2 * p.mv.length)) ∧ (c 6 = true → st.fr 128 = .i64 j) ∧ (c 7 = true → st.fr 129 = .loc 36 [] j 0) ∧ (c 8 = true → st.fr 130 = .i64 (A.getD j 0)) ∧ (c 9 = true → st.fr 131 = .ref 131 [] 1 0 1) ∧ (c 10 = true → c 13 = false → st.fr 132 = .ref 132 [] 1 0 (E2.S.length + 1)) ∧ (c 11 = true → st.fr 133 = .loc 32 [] 0 0) ∧ (c 12 = true → st.fr 134 = .loc 32 [] 0 7) ∧ st.mem 138 = some (itr (cst rw1)) ∧ st.mem 1 = some (.pt 3 p.sl) ∧ st.mem 36 = some (itr A) ∧ st.mem 32 = some (bif c 13 then (exA p E3.S (cst E3.D) (idxM E3.S) (cst E3.Pa) (byL A E3.J) (nxT Nx)) else (bif c 10 then (.pt 9 (.agg [.i64 p.n, .st p.nm, ssl p.mv, sfr E3.S, itr (cst E3.D), .mt true (idxM E3.S), itr (cst E3.Pa), .any, nxT Nx])) else (exA p E3.S (cst E3.D) (idxM E3.S) (cst E3.Pa) (byL A E2.J) (nxT Nx)))) ∧ (c 9 = true → st.mem 131 = some (itr [A.getD j 0])) ∧ (c 10 = true → c 13 = false → st.mem 132 = some (itr (byL A E3.J)))) (by decide +kernel) ?_ ?_ ?_
    · (try simp -dsimp -implicitDefEqProofs (disch := first | omega | (simp only [lenr]; try omega)) only [↓amPre, amAll, ↓reduceIte, reduceCtorEq, Nat.reduceEqDiff, Nat.reduceBEq, Nat.reduceAdd, Nat.reduceLeDiff, Nat.reduceSub, Nat.reduceMul, Int.reduceToNat, List.size_toArray, tyF, MM, bu0, cbU49, latj, hAj, hA, hlJ, hlJ3, hE3J, f1, f5, f6, f7, f8, f9, f12, f54, f55, f56, m1, m32, m36, m138])
      all_goals (try (repeat' (first | apply And.intro | rfl | (intro _; rfl) | (intro _ _; rfl))))
    · refine ⟨?_, ?_, ?_, ?_, ?_, ?_, ?_, ?_, ?_, ?_, ?_, ?_, ?_, ?_, trivial⟩
      all_goals rintro c st R hC hJ hR
      all_goals simp only [latm] at hC
      all_goals rcases Bool.eq_false_or_eq_true (c 10) with hx10 | hx10
      all_goals simp only [hC, hx10, latj] at hJ
      all_goals simp -dsimp -implicitDefEqProofs (disch := first | omega | (simp only [lenr]; try omega)) only [↓amPre, amAll, ↓reduceIte, reduceCtorEq, Nat.reduceEqDiff, Nat.reduceBEq, Nat.reduceAdd, Nat.reduceLeDiff, Nat.reduceSub, Nat.reduceMul, Int.reduceToNat, List.size_toArray, tyF, MM, bu0, cbU49, hJ, hAj, hA, hlJ, hlJ3, hE3J]
      all_goals refine hR _ ?_
      all_goals (simp +contextual -dsimp -implicitDefEqProofs only [amAll, ↓reduceIte, reduceCtorEq, Nat.reduceEqDiff, Nat.reduceBEq, Nat.reduceAdd, latj, hC, hJ, hx10, hAj, hA, hlJ, hlJ3, hE3J]; try (repeat' (first | apply And.intro | rfl | (intro _; rfl) | (intro _ _; rfl))))
    intro c st hall hJ
    simp only [latm] at hall
    simp only [hall, latj] at hJ
    obtain ⟨f56, f55, f54, f8, f7, f6, f5, f1, f9, f12, f122, f123, f124, f125, f127, f128, f129, f130, f131, f133, f134, m138, m1, m36, m32, m131⟩ := hJ
    clear hall
    simp -dsimp -implicitDefEqProofs (disch := first | omega | (simp only [lenr]; try omega)) only [↓amPre, amAll, ↓reduceIte, reduceCtorEq, Nat.reduceEqDiff, Nat.reduceBEq, Nat.reduceAdd, Nat.reduceLeDiff, Nat.reduceSub, Nat.reduceMul, Int.reduceToNat, List.size_toArray, tyF, MM, bu0, cbU49, f1, f5, f6, f7, f8, f9, f12, f54, f55, f56, m1, m32, m36, m138, hlr1]
    exact ⟨c2, by omega, by rw [← hre]⟩
end Ck
end Go.AM
set_option maxRecDepth 8000
namespace Go.AM
namespace Sr
open Go.Proofs
open Ch (PN pt idL cst cst_app cst_len)
open Bf (Ex nxO lsK lsN idxM byL)
open Ck (sfr exT exA nxT stN)
theorem stN_pos {p : Puzz} (hd : puzzOk p) : 1 ≤ stN p := by
  have hpn := Ck.puzz_pn hd
  have h1 := hd.1.1
  have hP := Ch.newL_part (n := p.n.toNat) (by omega) (by omega) hpn
  rw [stN, if_pos hd]
  exact (Ch.ord_fac (by omega) (by omega) _ 0 hP.good).1
theorem sR_yes {p : Puzz} (h : 1 ≤ stN p ∧ stN p ≤ 3000) : puzzOk p ∧ sR p = (Bf.out p.mv (letL p.mv.length) p.n.toNat 3000, true) := by
  have hd : puzzOk p := by
    by_cases c : puzzOk p
    · exact c
    · rw [stN, if_neg c] at h; omega
  have hpn := Ck.puzz_pn hd
  have h1 := hd.1.1
  have hw := Bf.outF_whole (n := p.n.toNat) (by omega) (by omega) hpn
  have hz : stN p = Ch.ordL (Ch.newL p.n.toNat p.mv) := if_pos hd
  have hF := hw.2 (by omega)
  refine ⟨hd, ?_⟩
  rw [sR, if_pos hd, Bf.outF_f 3000 hF, hF]; rfl
theorem sR_no {p : Puzz} (h : ¬ (1 ≤ stN p ∧ stN p ≤ 3000)) : (sR p).2 = false := by
  by_cases c : puzzOk p
  · have hpn := Ck.puzz_pn c
    have h1 := c.1.1
    have hw := Bf.outF_whole (n := p.n.toNat) (by omega) (by omega) hpn
    have hz : stN p = Ch.ordL (Ch.newL p.n.toNat p.mv) := if_pos c
    have hp := stN_pos c
    rw [sR, if_pos c]
    cases hb : (Bf.outF p.mv (letL p.mv.length) p.n.toNat 3000).2 with
    | true => rfl
    | false => have := hw.1 hb; omega
  · rw [sR, if_neg c]
theorem sR_ok {p : Puzz} (hd : puzzOk p) : Bf.Ok p.n.toNat p.mv (Bf.out p.mv (letL p.mv.length) p.n.toNat 3000) := by
  have h1 := hd.1.1
  exact (Bf.out_ok (by omega) (by omega) (Ck.puzz_pn hd) 3000).1
theorem sR_len {p : Puzz} (hd : puzzOk p) : (Bf.out p.mv (letL p.mv.length) p.n.toNat 3000).S.length ≤ stN p := by
  have h1 := hd.1.1
  have h2 : 1 ≤ p.n.toNat := by omega
  have h3 : p.n.toNat ≤ 20 := by omega
  rw [stN, if_pos hd]
  exact Bf.out_le h2 h3 (Ck.puzz_pn hd) 3000
noncomputable def ssR (p : Puzz) : Int := if (sR p).2 = true then lsK (sR p).1.S ((sR p).1.S.length - 1) else -1
theorem iSmallSup (p : Puzz) (h : smallP p) : SpecAt Try.prog 59 [p.sl] (.i64 (ssR p)) := by
  by_cases hs : 1 ≤ stN p ∧ stN p ≤ 3000
  case neg =>
    have q1 := Ck.exploreNo p h hs
    have hz : ssR p = -1 := by rw [ssR, sR_no hs]; rfl
    rw [hz]
    refine spec_of_awp (M := MM) (np := 1) (fz := true) mixed Try.func59 rfl rfl (by decide) rfl (Nat.le_refl _) (by decide +kernel) (.inr ⟨rfl, rfl⟩) trivial ?_
    simp -dsimp -implicitDefEqProofs (disch := first | omega | (simp only [lenr]; try omega)) only [↓amPre, amAll, ↓reduceIte, reduceCtorEq, Nat.reduceEqDiff, Nat.reduceBEq, Nat.reduceAdd, Nat.reduceLeDiff, Nat.reduceSub, Nat.reduceMul, Int.reduceToNat, List.size_toArray, tyF, MM, bu0, cbU49]
    refine callP_of (q1) ?_
    simp -dsimp -implicitDefEqProofs (disch := first | omega | (simp only [lenr]; try omega)) only [↓amPre, amAll, ↓reduceIte, reduceCtorEq, Nat.reduceEqDiff, Nat.reduceBEq, Nat.reduceAdd, Nat.reduceLeDiff, Nat.reduceSub, Nat.reduceMul, Int.reduceToNat, List.size_toArray, tyF, MM, bu0, cbU49, Ck.nilPt]
    try rfl
  obtain ⟨hd, hR⟩ := sR_yes hs
  have q1 := Ck.exploreYes p h hs
  have hok := sR_ok hd
  have hz : ssR p = lsK (sR p).1.S ((sR p).1.S.length - 1) := if_pos (by rw [hR])
  rw [hz, hR]
  have hn20 := hd.1.1
  have hle := sR_len hd
  unfold exT at q1
  generalize nxO p.mv (letL p.mv.length) p.n.toNat 3000 = Nx at *
  generalize Bf.out p.mv (letL p.mv.length) p.n.toNat 3000 = e at *
  have hz1 := hok.z.1
  have hpl : ∀ s ∈ e.S, s.length ≤ 20 := fun s hs => by have := (hok.el s hs).1.1; omega
  have hbd := Bf.lsK_bd hpl
  refine spec_of_awp (M := MM) (np := 1) (fz := true) mixed Try.func59 rfl rfl (by decide) rfl (Nat.le_refl _) (by decide +kernel) (.inr ⟨rfl, rfl⟩) trivial ?_
  simp -dsimp -implicitDefEqProofs (disch := first | omega | (simp only [lenr]; try omega)) only [↓amPre, amAll, ↓reduceIte, reduceCtorEq, Nat.reduceEqDiff, Nat.reduceBEq, Nat.reduceAdd, Nat.reduceLeDiff, Nat.reduceSub, Nat.reduceMul, Int.reduceToNat, List.size_toArray, tyF, MM, bu0, cbU49]
  refine callP_of (q1) ?_
  simp -dsimp -implicitDefEqProofs (disch := first | omega | (simp only [lenr]; try omega)) only [↓amPre, amAll, ↓reduceIte, reduceCtorEq, Nat.reduceEqDiff, Nat.reduceBEq, Nat.reduceAdd, Nat.reduceLeDiff, Nat.reduceSub, Nat.reduceMul, Int.reduceToNat, List.size_toArray, tyF, MM, bu0, cbU49]
  refine awp_loop (fun i st => i ≤ (e.S.length - 1) ∧ st.fr 22 = .i64 i ∧ st.fr 21 = .i64 (e.S.length - 1 : Nat) ∧ st.fr 20 = .ref 11 [(0, 0), (0, 3)] 1 1 (e.S.length - 1) ∧ st.fr 5 = .i64 (lsK e.S i) ∧ st.mem 11 = some (.tup [exA p e.S (cst e.D) (idxM e.S) (cst e.Pa) (byL (letL p.mv.length) e.J) (nxT Nx), .bl true])) ((e.S.length - 1)) ?_ ?_
  · simp -dsimp -implicitDefEqProofs (disch := first | omega | (simp only [lenr]; try omega)) only [↓amPre, amAll, ↓reduceIte, reduceCtorEq, Nat.reduceEqDiff, Nat.reduceBEq, Nat.reduceAdd, Nat.reduceLeDiff, Nat.reduceSub, Nat.reduceMul, Int.reduceToNat, List.size_toArray, tyF, MM, bu0, cbU49]
    exact ⟨Nat.zero_le _, rfl, rfl⟩
  rintro i st _ ⟨hi, f22, f21, f20, f5, m11⟩
  by_cases c1 : i < e.S.length - 1
  · have hb := hbd i (by omega)
    have hb1 := hbd (i + 1) (by omega)
    have hsm := mem_getD e.S (i + 1) default (by omega)
    have hpn := (hok.el _ hsm).1
    have q2 := iSupport (e.S.getD (i + 1) default) hpn.2
    have q3 := lenI (movL (e.S.getD (i + 1) default) (e.S.getD (i + 1) default).length)
    have hln : lsN e.S (i + 1) = ((movL (e.S.getD (i + 1) default) (e.S.getD (i + 1) default).length).length : Int) := rfl
    have hst : lsK e.S (i + 1) = if lsK e.S i < 0 ∨ lsN e.S (i + 1) < lsK e.S i then lsN e.S (i + 1) else lsK e.S i := rfl
    have hg : (e.S.map fun x => isl x).getD (i + 1) .any = isl (e.S.getD (i + 1) default) := by rw [getD_eq _ _ _ (by simp; omega), List.getElem_map, getD_eq _ _ _ (by omega)]
    have hg2 : (e.S.map fun x => isl x).getD (1 + i) .any = isl (e.S.getD (i + 1) default) := by rw [Nat.add_comm]; exact hg
    rw [← hln] at q3
    generalize hL : lsK e.S (i + 1) = L1 at *
    generalize lsK e.S i = L0 at *
    generalize lsN e.S (i + 1) = n1 at *
    simp -dsimp -implicitDefEqProofs (disch := first | omega | (simp only [lenr]; try omega)) only [↓amPre, amAll, ↓reduceIte, reduceCtorEq, Nat.reduceEqDiff, Nat.reduceBEq, Nat.reduceAdd, Nat.reduceLeDiff, Nat.reduceSub, Nat.reduceMul, Int.reduceToNat, List.size_toArray, tyF, MM, bu0, cbU49, f22, f21, f20, f5, m11, c1, hg, hg2]
    refine callP_of (q2) ?_
    simp -dsimp -implicitDefEqProofs (disch := first | omega | (simp only [lenr]; try omega)) only [↓amPre, amAll, ↓reduceIte, reduceCtorEq, Nat.reduceEqDiff, Nat.reduceBEq, Nat.reduceAdd, Nat.reduceLeDiff, Nat.reduceSub, Nat.reduceMul, Int.reduceToNat, List.size_toArray, tyF, MM, bu0, cbU49, f22, f21, f20, f5, m11]
    refine callP_of (q3) ?_
    by_cases d1 : L0 < 0
    · rw [if_pos (.inl d1)] at hst
      rw [hst]
      simp -dsimp -implicitDefEqProofs (disch := first | omega | (simp only [lenr]; try omega)) only [↓amPre, amAll, ↓reduceIte, reduceCtorEq, Nat.reduceEqDiff, Nat.reduceBEq, Nat.reduceAdd, Nat.reduceLeDiff, Nat.reduceSub, Nat.reduceMul, Int.reduceToNat, List.size_toArray, tyF, MM, bu0, cbU49, f22, f21, f20, f5, m11, lt_true d1]
      exact ⟨c1, by omega⟩
    · by_cases d2 : n1 < L0
      · rw [if_pos (.inr d2)] at hst
        rw [hst]
        simp -dsimp -implicitDefEqProofs (disch := first | omega | (simp only [lenr]; try omega)) only [↓amPre, amAll, ↓reduceIte, reduceCtorEq, Nat.reduceEqDiff, Nat.reduceBEq, Nat.reduceAdd, Nat.reduceLeDiff, Nat.reduceSub, Nat.reduceMul, Int.reduceToNat, List.size_toArray, tyF, MM, bu0, cbU49, f22, f21, f20, f5, m11, lt_false (Int.not_lt.1 d1), lt_true d2]
        exact ⟨c1, by omega⟩
      · rw [if_neg (fun q => q.elim d1 d2)] at hst
        rw [hst]
        simp -dsimp -implicitDefEqProofs (disch := first | omega | (simp only [lenr]; try omega)) only [↓amPre, amAll, ↓reduceIte, reduceCtorEq, Nat.reduceEqDiff, Nat.reduceBEq, Nat.reduceAdd, Nat.reduceLeDiff, Nat.reduceSub, Nat.reduceMul, Int.reduceToNat, List.size_toArray, tyF, MM, bu0, cbU49, f22, f21, f20, f5, m11, lt_false (Int.not_lt.1 d1), lt_false (Int.not_lt.1 d2)]
        exact ⟨c1, by omega⟩
  · have hie : i = e.S.length - 1 := by omega
    subst hie
    simp -dsimp -implicitDefEqProofs (disch := first | omega | (simp only [lenr]; try omega)) only [↓amPre, amAll, ↓reduceIte, reduceCtorEq, Nat.reduceEqDiff, Nat.reduceBEq, Nat.reduceAdd, Nat.reduceLeDiff, Nat.reduceSub, Nat.reduceMul, Int.reduceToNat, List.size_toArray, tyF, MM, bu0, cbU49, f22, f21, f20, f5, m11]
theorem fE_fz (e : Ex) (w b : Bool) : (AV.tup [fE e w, .bl b]).fz = .tup [fS e.S (cst e.D) (Bf.srtS e.S) w, .bl b] := by
  have h1 : ∀ L : List (List Int), AV.fzL (L.map fun x => isl x) = L.map fun x => isl x := fun L => by rw [fzL_map, islfz]
  have e1 : ∀ X : List Int, AV.fzL (X.map AV.i64) = X.map AV.i64 := fun X => by rw [fzL_map, ints_fz]
  simp only [AV.fz, AV.fzL, h1, e1]
theorem searchC (p : Puzz) (h : smallP p) : SpecAt Try.prog 146 [p.sl] (.tup [fS (sR p).1.S (cst (sR p).1.D) (Bf.srtS (sR p).1.S) (sR p).2, .bl (sR p).2]) := spec_frz (searchStatesI p h) rfl (fE_fz _ _ _)
theorem sSmallSup (p : Puzz) (h : smallP p) : SpecAt Try.prog 58 [p.sl] (.i64 (ssR p)) := by
  have q1 := searchC p h
  have hl : (sR p).1.S.length ≤ 3000 ∧ ∀ s ∈ (sR p).1.S, s.length ≤ 20 := by
    by_cases c : puzzOk p
    · have h1 := c.1.1
      have h2 : 1 ≤ p.n.toNat := by omega
      have h3 : p.n.toNat ≤ 20 := by omega
      rw [sR, if_pos c]
      dsimp only
      exact ⟨Bf.outF_len _ _ _ _, fun s hs => by have := Bf.outF_el h2 h3 (Ck.puzz_pn c) 3000 s hs; have := this.1.1; omega⟩
    · rw [sR, if_neg c]
      exact ⟨by simp, fun s hs => by cases hs⟩
  obtain ⟨hl1, hl2⟩ := hl
  have hssR : ssR p = if (sR p).2 = true then lsK (sR p).1.S ((sR p).1.S.length - 1) else -1 := rfl
  rw [hssR]
  generalize (sR p).1 = e at *
  generalize (sR p).2 = w at *
  have hbd := Bf.lsK_bd hl2
  have hgl : (e.S.map fun x => isl x).length = e.S.length := by simp
  cases w with
  | false =>
    rw [if_neg (by simp)]
    refine spec_of_awp (M := MM) (np := 1) (fz := true) mixed Try.func58 rfl rfl (by decide) rfl (Nat.le_refl _) (by decide +kernel) (.inr ⟨rfl, rfl⟩) trivial ?_
    simp -dsimp -implicitDefEqProofs (disch := first | omega | (simp only [lenr]; try omega)) only [↓amPre, amAll, ↓reduceIte, reduceCtorEq, Nat.reduceEqDiff, Nat.reduceBEq, Nat.reduceAdd, Nat.reduceLeDiff, Nat.reduceSub, Nat.reduceMul, Int.reduceToNat, List.size_toArray, tyF, MM, bu0, cbU49]
    refine callP_of (q1) ?_
    simp -dsimp -implicitDefEqProofs (disch := first | omega | (simp only [lenr]; try omega)) only [↓amPre, amAll, ↓reduceIte, reduceCtorEq, Nat.reduceEqDiff, Nat.reduceBEq, Nat.reduceAdd, Nat.reduceLeDiff, Nat.reduceSub, Nat.reduceMul, Int.reduceToNat, List.size_toArray, tyF, MM, bu0, cbU49]
    refine awp_loop (fun k st => k ≤ 0 ∧ st.fr 6 = .i64 1 ∧ st.fr 5 = .i64 (-1) ∧ st.fr 4 = .bl false ∧ st.fr 3 = .loc 3 [] 0 0 ∧ st.mem 3 = some (.pt 4 (fS e.S (cst e.D) (Bf.srtS e.S) false))) (0) ?_ ?_
    · simp -dsimp -implicitDefEqProofs (disch := first | omega | (simp only [lenr]; try omega)) only [↓amPre, amAll, ↓reduceIte, reduceCtorEq, Nat.reduceEqDiff, Nat.reduceBEq, Nat.reduceAdd, Nat.reduceLeDiff, Nat.reduceSub, Nat.reduceMul, Int.reduceToNat, List.size_toArray, tyF, MM, bu0, cbU49]
    rintro k st _ ⟨hk, f6, f5, f4, f3, m3⟩
    by_cases c1 : (1 : Int) < e.S.length
    · simp -dsimp -implicitDefEqProofs (disch := first | omega | (simp only [lenr]; try omega)) only [↓amPre, amAll, ↓reduceIte, reduceCtorEq, Nat.reduceEqDiff, Nat.reduceBEq, Nat.reduceAdd, Nat.reduceLeDiff, Nat.reduceSub, Nat.reduceMul, Int.reduceToNat, List.size_toArray, tyF, MM, bu0, cbU49, f6, f5, f4, f3, m3, hgl, lt_true c1]
    · simp -dsimp -implicitDefEqProofs (disch := first | omega | (simp only [lenr]; try omega)) only [↓amPre, amAll, ↓reduceIte, reduceCtorEq, Nat.reduceEqDiff, Nat.reduceBEq, Nat.reduceAdd, Nat.reduceLeDiff, Nat.reduceSub, Nat.reduceMul, Int.reduceToNat, List.size_toArray, tyF, MM, bu0, cbU49, f6, f5, f4, f3, m3, hgl, lt_false (Int.not_lt.1 c1)]
  | true =>
    rw [if_pos rfl]
    refine spec_of_awp (M := MM) (np := 1) (fz := true) mixed Try.func58 rfl rfl (by decide) rfl (Nat.le_refl _) (by decide +kernel) (.inr ⟨rfl, rfl⟩) trivial ?_
    simp -dsimp -implicitDefEqProofs (disch := first | omega | (simp only [lenr]; try omega)) only [↓amPre, amAll, ↓reduceIte, reduceCtorEq, Nat.reduceEqDiff, Nat.reduceBEq, Nat.reduceAdd, Nat.reduceLeDiff, Nat.reduceSub, Nat.reduceMul, Int.reduceToNat, List.size_toArray, tyF, MM, bu0, cbU49]
    refine callP_of (q1) ?_
    simp -dsimp -implicitDefEqProofs (disch := first | omega | (simp only [lenr]; try omega)) only [↓amPre, amAll, ↓reduceIte, reduceCtorEq, Nat.reduceEqDiff, Nat.reduceBEq, Nat.reduceAdd, Nat.reduceLeDiff, Nat.reduceSub, Nat.reduceMul, Int.reduceToNat, List.size_toArray, tyF, MM, bu0, cbU49]
    refine awp_loop (fun k st => k ≤ (e.S.length - 1) ∧ st.fr 6 = .i64 (k + 1 : Nat) ∧ st.fr 5 = .i64 (lsK e.S k) ∧ st.fr 4 = .bl true ∧ st.fr 3 = .loc 3 [] 0 0 ∧ st.mem 3 = some (.pt 4 (fS e.S (cst e.D) (Bf.srtS e.S) true))) ((e.S.length - 1)) ?_ ?_
    · simp -dsimp -implicitDefEqProofs (disch := first | omega | (simp only [lenr]; try omega)) only [↓amPre, amAll, ↓reduceIte, reduceCtorEq, Nat.reduceEqDiff, Nat.reduceBEq, Nat.reduceAdd, Nat.reduceLeDiff, Nat.reduceSub, Nat.reduceMul, Int.reduceToNat, List.size_toArray, tyF, MM, bu0, cbU49]
      exact ⟨Nat.zero_le _, rfl, rfl⟩
    rintro k st _ ⟨hk, f6, f5, f4, f3, m3⟩
    by_cases c1 : k < e.S.length - 1
    · have hb := hbd k (by omega)
      have hb1 := hbd (k + 1) (by omega)
      have hsm := hl2 _ (mem_getD e.S (k + 1) default (by omega))
      have q2 := moved (e.S.getD (k + 1) default) hsm
      have hln : lsN e.S (k + 1) = ((movL (e.S.getD (k + 1) default) (e.S.getD (k + 1) default).length).length : Int) := rfl
      have hst : lsK e.S (k + 1) = if lsK e.S k < 0 ∨ lsN e.S (k + 1) < lsK e.S k then lsN e.S (k + 1) else lsK e.S k := rfl
      have hg : (e.S.map fun x => isl x).getD (k + 1) .any = isl (e.S.getD (k + 1) default) := by rw [getD_eq _ _ _ (by simp; omega), List.getElem_map, getD_eq _ _ _ (by omega)]
      have c1' : ((k + 1 : Nat) : Int) < e.S.length := by omega
      generalize hL : lsK e.S (k + 1) = L1 at *
      generalize lsK e.S k = L0 at *
      generalize lsN e.S (k + 1) = n1 at *
      by_cases d1 : L0 < 0
      · rw [if_pos (.inl d1)] at hst
        rw [hst]
        simp -dsimp -implicitDefEqProofs (disch := first | omega | (simp only [lenr]; try omega)) only [↓amPre, amAll, ↓reduceIte, reduceCtorEq, Nat.reduceEqDiff, Nat.reduceBEq, Nat.reduceAdd, Nat.reduceLeDiff, Nat.reduceSub, Nat.reduceMul, Int.reduceToNat, List.size_toArray, tyF, MM, bu0, cbU49, f6, f5, f4, f3, m3, hgl, hg, lt_true c1']
        refine callP_of (q2) ?_
        simp -dsimp -implicitDefEqProofs (disch := first | omega | (simp only [lenr]; try omega)) only [↓amPre, amAll, ↓reduceIte, reduceCtorEq, Nat.reduceEqDiff, Nat.reduceBEq, Nat.reduceAdd, Nat.reduceLeDiff, Nat.reduceSub, Nat.reduceMul, Int.reduceToNat, List.size_toArray, tyF, MM, bu0, cbU49, f6, f5, f4, f3, m3, ← hln, lt_true d1]
        exact ⟨c1, by omega⟩
      · by_cases d2 : n1 < L0
        · rw [if_pos (.inr d2)] at hst
          rw [hst]
          simp -dsimp -implicitDefEqProofs (disch := first | omega | (simp only [lenr]; try omega)) only [↓amPre, amAll, ↓reduceIte, reduceCtorEq, Nat.reduceEqDiff, Nat.reduceBEq, Nat.reduceAdd, Nat.reduceLeDiff, Nat.reduceSub, Nat.reduceMul, Int.reduceToNat, List.size_toArray, tyF, MM, bu0, cbU49, f6, f5, f4, f3, m3, hgl, hg, lt_true c1']
          refine callP_of (q2) ?_
          simp -dsimp -implicitDefEqProofs (disch := first | omega | (simp only [lenr]; try omega)) only [↓amPre, amAll, ↓reduceIte, reduceCtorEq, Nat.reduceEqDiff, Nat.reduceBEq, Nat.reduceAdd, Nat.reduceLeDiff, Nat.reduceSub, Nat.reduceMul, Int.reduceToNat, List.size_toArray, tyF, MM, bu0, cbU49, f6, f5, f4, f3, m3, ← hln, lt_false (Int.not_lt.1 d1), lt_true d2]
          exact ⟨c1, by omega⟩
        · rw [if_neg (fun q => q.elim d1 d2)] at hst
          rw [hst]
          simp -dsimp -implicitDefEqProofs (disch := first | omega | (simp only [lenr]; try omega)) only [↓amPre, amAll, ↓reduceIte, reduceCtorEq, Nat.reduceEqDiff, Nat.reduceBEq, Nat.reduceAdd, Nat.reduceLeDiff, Nat.reduceSub, Nat.reduceMul, Int.reduceToNat, List.size_toArray, tyF, MM, bu0, cbU49, f6, f5, f4, f3, m3, hgl, hg, lt_true c1']
          refine callP_of (q2) ?_
          simp -dsimp -implicitDefEqProofs (disch := first | omega | (simp only [lenr]; try omega)) only [↓amPre, amAll, ↓reduceIte, reduceCtorEq, Nat.reduceEqDiff, Nat.reduceBEq, Nat.reduceAdd, Nat.reduceLeDiff, Nat.reduceSub, Nat.reduceMul, Int.reduceToNat, List.size_toArray, tyF, MM, bu0, cbU49, f6, f5, f4, f3, m3, ← hln, lt_false (Int.not_lt.1 d1), lt_false (Int.not_lt.1 d2)]
          exact ⟨c1, by omega⟩
    · have hke : k = e.S.length - 1 := by omega
      have c1' : ¬ (((k + 1 : Nat) : Int) < e.S.length) := by omega
      subst hke
      simp -dsimp -implicitDefEqProofs (disch := first | omega | (simp only [lenr]; try omega)) only [↓amPre, amAll, ↓reduceIte, reduceCtorEq, Nat.reduceEqDiff, Nat.reduceBEq, Nat.reduceAdd, Nat.reduceLeDiff, Nat.reduceSub, Nat.reduceMul, Int.reduceToNat, List.size_toArray, tyF, MM, bu0, cbU49, f6, f5, f4, f3, m3, hgl, lt_false (Int.not_lt.1 c1')]
end Sr
end Go.AM
namespace Go.Proofs
open Go.RowKit Go.Shelf
attribute [local go_sem] Oper.semAt_some
/-! slices.Backward, and the word behind it -/
def Bw.upto {α : Type} (f : Nat → α) (k : Nat) : List α := (List.range k).map f
abbrev Bw.f (zs : List Int) (j : Nat) : Nat × Int := (zs.length - 1 - j, zs[zs.length - 1 - j]?.getD 0)
def Bw.KB (n₀ Bs : Nat) (A B : World) : Prop := Below n₀ A B ∧ ∀ v, Boxed A Bs 25 v → Boxed B Bs 25 v
theorem Bw.KB.refl (n₀ Bs : Nat) (A : World) : Bw.KB n₀ Bs A A := ⟨Below.refl _ _, fun _ h => h⟩
theorem Bw.KB.trans {n₀ Bs : Nat} {A B C : World} (h : Bw.KB n₀ Bs A B) (k : Bw.KB n₀ Bs B C) : Bw.KB n₀ Bs A C := ⟨h.1.trans k.1, fun v hv => k.2 v (h.2 v hv)⟩
theorem Bw.KB.put {n₀ Bs : Nat} {w : World} (hn : n₀ ≤ w.heap.size) (hb : Bs < w.heap.size) (W : World) (l : Nat) (o o' : Obj) (hl : w.heap.size ≤ l) (h : W.heap[l]? = some o) (hc : o.isCells = false) (hw : o.isWalk = false) : Bw.KB n₀ Bs W (W.putObj l o') :=
  ⟨belowK_b hn W l o o' hl h hc hw, fun v hv => hv.kept (grownBy_putObj' W l o') (fun e => by cases e; omega)⟩
def Bw.Ints (n₀ : Nat) (W : World) (sv : Value) (zs : List Int) : Prop :=
  (∃ a c, sv = .slice a 0 c ∧ zs = []) ∨ ∃ b off cap, sv = .slice (some ⟨b, off, none⟩) zs.length cap ∧ b < n₀ ∧ ∀ j, j < zs.length → W.cell? ⟨b, off + j, none⟩ = some (.int .i64 (zs[j]?.getD 0))
theorem Bw.Ints.below {n₀ : Nat} {A B : World} (h : Below n₀ A B) {sv : Value} {zs : List Int} : Bw.Ints n₀ A sv zs → Bw.Ints n₀ B sv zs
  | .inl e => .inl e
  | .inr ⟨b, off, cap, e, hb, hc⟩ => .inr ⟨b, off, cap, e, hb, fun j hj => (h.cell (p := ⟨b, off + j, none⟩) hb).trans (hc j hj)⟩
def Bw.neg (pre : List (Nat × Int)) : List Int := pre.map fun p => wrap64 (-p.2)
end Go.Proofs
namespace Go.AM
/-! a word backwards, each letter turned -/
def invW (w : List Int) : List Int := w.reverse.map fun x => -x
def invK (w : List Int) : Nat → List Int
  | 0 => []
  | k + 1 => invK w k ++ [-(w.getD (w.length - 1 - k) 0)]
end Go.AM
set_option maxRecDepth 8000
namespace Go.AM
open Go.Proofs
def cjW (m : Twist) (w : List Int) : List Int := w ++ (m.to ++ invW w)
def cjOk (p : Puzz) (m : Twist) (w : List Int) : Prop := macOk p m ∧ wordOk p.mv.length w ∧ m.to.length + 2 * w.length ≤ 200
instance (p : Puzz) (m : Twist) (w : List Int) : Decidable (cjOk p m w) := by unfold cjOk; infer_instance
def cjR (p : Puzz) (m : Twist) (w : List Int) : Twist := if cjOk p m w then ⟨cjW m w, movL (effK p.n p.mv (cjW m w) (cjW m w).length) p.n.toNat⟩ else ⟨[], []⟩
end Go.AM
set_option maxRecDepth 8000
namespace Go.AM
open Go.Proofs
def treeCj : OT := (.alt 0 (.alt 1 (.alt 2 (.alt 3 (.alt 4 (.alt 5 (.alt 6 (.alt 7 (.alt 8 .done .stop) .stop) .stop) .stop) (.alt 5 (.alt 4 (.alt 6 (.alt 7 (.alt 8 .done .stop) .stop) .stop) .stop) .stop)) (.alt 5 (.alt 3 (.alt 4 (.alt 6 (.alt 7 (.alt 8 .done .stop) .stop) .stop) .stop) .stop) .stop)) (.alt 5 (.alt 2 (.alt 3 (.alt 4 (.alt 6 (.alt 7 (.alt 8 .done .stop) .stop) .stop) .stop) .stop) .stop) .stop)) (.alt 2 (.alt 1 (.alt 3 (.alt 4 (.alt 5 (.alt 6 (.alt 7 (.alt 8 .done .stop) .stop) .stop) .stop) (.alt 5 (.alt 4 (.alt 6 (.alt 7 (.alt 8 .done .stop) .stop) .stop) .stop) .stop)) (.alt 5 (.alt 3 (.alt 4 (.alt 6 (.alt 7 (.alt 8 .done .stop) .stop) .stop) .stop) .stop) .stop)) (.alt 3 (.alt 1 (.alt 4 (.alt 5 (.alt 6 (.alt 7 (.alt 8 .done .stop) .stop) .stop) .stop) (.alt 5 (.alt 4 (.alt 6 (.alt 7 (.alt 8 .done .stop) .stop) .stop) .stop) .stop)) (.alt 5 (.alt 1 (.alt 4 (.alt 6 (.alt 7 (.alt 8 .done .stop) .stop) .stop) .stop) .stop) .stop)) (.alt 5 (.alt 1 (.alt 3 (.alt 4 (.alt 6 (.alt 7 (.alt 8 .done .stop) .stop) .stop) .stop) .stop) (.alt 3 (.alt 1 (.alt 4 (.alt 6 (.alt 7 (.alt 8 .done .stop) .stop) .stop) .stop) .stop) .stop)) .stop))) (.alt 5 (.alt 1 (.alt 2 (.alt 3 (.alt 4 (.alt 6 (.alt 7 (.alt 8 .done .stop) .stop) .stop) .stop) .stop) .stop) (.alt 2 (.alt 1 (.alt 3 (.alt 4 (.alt 6 (.alt 7 (.alt 8 .done .stop) .stop) .stop) .stop) .stop) (.alt 3 (.alt 1 (.alt 4 (.alt 6 (.alt 7 (.alt 8 .done .stop) .stop) .stop) .stop) .stop) .stop)) .stop)) .stop))) (.alt 2 (.alt 0 (.alt 1 (.alt 3 (.alt 4 (.alt 5 (.alt 6 (.alt 7 (.alt 8 .done .stop) .stop) .stop) .stop) (.alt 5 (.alt 4 (.alt 6 (.alt 7 (.alt 8 .done .stop) .stop) .stop) .stop) .stop)) (.alt 5 (.alt 3 (.alt 4 (.alt 6 (.alt 7 (.alt 8 .done .stop) .stop) .stop) .stop) .stop) .stop)) (.alt 3 (.alt 1 (.alt 4 (.alt 5 (.alt 6 (.alt 7 (.alt 8 .done .stop) .stop) .stop) .stop) (.alt 5 (.alt 4 (.alt 6 (.alt 7 (.alt 8 .done .stop) .stop) .stop) .stop) .stop)) (.alt 5 (.alt 1 (.alt 4 (.alt 6 (.alt 7 (.alt 8 .done .stop) .stop) .stop) .stop) .stop) .stop)) (.alt 5 (.alt 1 (.alt 3 (.alt 4 (.alt 6 (.alt 7 (.alt 8 .done .stop) .stop) .stop) .stop) .stop) (.alt 3 (.alt 1 (.alt 4 (.alt 6 (.alt 7 (.alt 8 .done .stop) .stop) .stop) .stop) .stop) .stop)) .stop))) (.alt 3 (.alt 0 (.alt 1 (.alt 4 (.alt 5 (.alt 6 (.alt 7 (.alt 8 .done .stop) .stop) .stop) .stop) (.alt 5 (.alt 4 (.alt 6 (.alt 7 (.alt 8 .done .stop) .stop) .stop) .stop) .stop)) (.alt 5 (.alt 1 (.alt 4 (.alt 6 (.alt 7 (.alt 8 .done .stop) .stop) .stop) .stop) .stop) .stop)) (.alt 5 (.alt 0 (.alt 1 (.alt 4 (.alt 6 (.alt 7 (.alt 8 .done .stop) .stop) .stop) .stop) .stop) .stop) .stop)) (.alt 5 (.alt 0 (.alt 1 (.alt 3 (.alt 4 (.alt 6 (.alt 7 (.alt 8 .done .stop) .stop) .stop) .stop) .stop) (.alt 3 (.alt 1 (.alt 4 (.alt 6 (.alt 7 (.alt 8 .done .stop) .stop) .stop) .stop) .stop) .stop)) (.alt 3 (.alt 0 (.alt 1 (.alt 4 (.alt 6 (.alt 7 (.alt 8 .done .stop) .stop) .stop) .stop) .stop) .stop) .stop)) .stop))) (.alt 5 (.alt 0 (.alt 1 (.alt 2 (.alt 3 (.alt 4 (.alt 6 (.alt 7 (.alt 8 .done .stop) .stop) .stop) .stop) .stop) .stop) (.alt 2 (.alt 1 (.alt 3 (.alt 4 (.alt 6 (.alt 7 (.alt 8 .done .stop) .stop) .stop) .stop) .stop) (.alt 3 (.alt 1 (.alt 4 (.alt 6 (.alt 7 (.alt 8 .done .stop) .stop) .stop) .stop) .stop) .stop)) .stop)) (.alt 2 (.alt 0 (.alt 1 (.alt 3 (.alt 4 (.alt 6 (.alt 7 (.alt 8 .done .stop) .stop) .stop) .stop) .stop) (.alt 3 (.alt 1 (.alt 4 (.alt 6 (.alt 7 (.alt 8 .done .stop) .stop) .stop) .stop) .stop) .stop)) (.alt 3 (.alt 0 (.alt 1 (.alt 4 (.alt 6 (.alt 7 (.alt 8 .done .stop) .stop) .stop) .stop) .stop) .stop) .stop)) .stop)) .stop)))
end Go.AM
set_option maxRecDepth 8000
namespace Go.AM
open Go.Proofs
def MF : FuncId → List Bool := fun f => if f = 4294967295 then [true] else MM f
def treeH : OT := (.alt 9 (.alt 11 (.alt 12 .done .stop) .stop) (.alt 11 (.alt 9 (.alt 12 .done .stop) .stop) .stop))
end Go.AM
set_option maxRecDepth 8000
namespace Go.AM
namespace Sr
open Go.Proofs
theorem lawSmallestSup (p : Puzz) (hp : wfP p) : SpecAt Try.prog 9 [p.sl] (.bl true) := by
  refine spec_of_awp_any (M := MM) (np := 1) (X := [10]) (fz := true) mixed Try.func9 rfl rfl (by decide) rfl (Nat.le_refl _) (by decide +kernel) (.inr ⟨rfl, rfl⟩) trivial ?_
  simp -dsimp -implicitDefEqProofs (disch := first | omega | (simp only [lenr]; try omega)) only [↓amPre, amAll, ↓reduceIte, reduceCtorEq, Nat.reduceEqDiff, Nat.reduceBEq, Nat.reduceAdd, Nat.reduceLeDiff, Nat.reduceSub, Nat.reduceMul, Int.reduceToNat, List.size_toArray, tyF, MM, bu0, cbU49]
  refine callP_of (szPuzzle p 1048576 (by omega) (by omega) hp) ?_
  by_cases c1 : (1048576 : Int) - p.size < 0
  · simp -dsimp -implicitDefEqProofs (disch := first | omega | (simp only [lenr]; try omega)) only [↓amPre, amAll, ↓reduceIte, reduceCtorEq, Nat.reduceEqDiff, Nat.reduceBEq, Nat.reduceAdd, Nat.reduceLeDiff, Nat.reduceSub, Nat.reduceMul, Int.reduceToNat, List.size_toArray, tyF, MM, bu0, cbU49, szR_neg c1]
  have c1' : 0 ≤ (1048576 : Int) - p.size := by omega
  have h := szP_small hp.1 (by omega) c1'
  have q1 := sSmallSup p h
  have q2 := iSmallSup p h
  generalize ssR p = r at q1 q2
  simp -dsimp -implicitDefEqProofs (disch := first | omega | (simp only [lenr]; try omega)) only [↓amPre, amAll, ↓reduceIte, reduceCtorEq, Nat.reduceEqDiff, Nat.reduceBEq, Nat.reduceAdd, Nat.reduceLeDiff, Nat.reduceSub, Nat.reduceMul, Int.reduceToNat, List.size_toArray, tyF, MM, bu0, cbU49, szR_pos c1']
  refine callP_of (toPuzzle p h) ?_
  simp -dsimp -implicitDefEqProofs (disch := first | omega | (simp only [lenr]; try omega)) only [↓amPre, amAll, ↓reduceIte, reduceCtorEq, Nat.reduceEqDiff, Nat.reduceBEq, Nat.reduceAdd, Nat.reduceLeDiff, Nat.reduceSub, Nat.reduceMul, Int.reduceToNat, List.size_toArray, tyF, MM, bu0, cbU49, ssfz]
  refine callP_of (q1) ?_
  simp -dsimp -implicitDefEqProofs (disch := first | omega | (simp only [lenr]; try omega)) only [↓amPre, amAll, ↓reduceIte, reduceCtorEq, Nat.reduceEqDiff, Nat.reduceBEq, Nat.reduceAdd, Nat.reduceLeDiff, Nat.reduceSub, Nat.reduceMul, Int.reduceToNat, List.size_toArray, tyF, MM, bu0, cbU49, ssfz]
  refine callP_of (toPuzzle p h) ?_
  simp -dsimp -implicitDefEqProofs (disch := first | omega | (simp only [lenr]; try omega)) only [↓amPre, amAll, ↓reduceIte, reduceCtorEq, Nat.reduceEqDiff, Nat.reduceBEq, Nat.reduceAdd, Nat.reduceLeDiff, Nat.reduceSub, Nat.reduceMul, Int.reduceToNat, List.size_toArray, tyF, MM, bu0, cbU49, ssfz]
  refine callP_of (q2) ?_
  simp -dsimp -implicitDefEqProofs (disch := first | omega | (simp only [lenr]; try omega)) only [↓amPre, amAll, ↓reduceIte, reduceCtorEq, Nat.reduceEqDiff, Nat.reduceBEq, Nat.reduceAdd, Nat.reduceLeDiff, Nat.reduceSub, Nat.reduceMul, Int.reduceToNat, List.size_toArray, tyF, MM, bu0, cbU49, ssfz]
  refine split_go 3 (by decide +kernel) ?_
  simp -dsimp -implicitDefEqProofs (disch := first | omega | (simp only [lenr]; try omega)) only [↓amPre, amAll, ↓reduceIte, reduceCtorEq, Nat.reduceEqDiff, Nat.reduceBEq, Nat.reduceAdd, Nat.reduceLeDiff, Nat.reduceSub, Nat.reduceMul, Int.reduceToNat, List.size_toArray, tyF, MM, bu0, cbU49, ssfz]
  refine callP_of (toPuzzle p h) ?_
  simp -dsimp -implicitDefEqProofs (disch := first | omega | (simp only [lenr]; try omega)) only [↓amPre, amAll, ↓reduceIte, reduceCtorEq, Nat.reduceEqDiff, Nat.reduceBEq, Nat.reduceAdd, Nat.reduceLeDiff, Nat.reduceSub, Nat.reduceMul, Int.reduceToNat, List.size_toArray, tyF, MM, bu0, cbU49, ssfz]
  refine callP_of (eqPuzzle p p h) ?_
  simp -dsimp -implicitDefEqProofs (disch := first | omega | (simp only [lenr]; try omega)) only [↓amPre, amAll, ↓reduceIte, reduceCtorEq, Nat.reduceEqDiff, Nat.reduceBEq, Nat.reduceAdd, Nat.reduceLeDiff, Nat.reduceSub, Nat.reduceMul, Int.reduceToNat, List.size_toArray, tyF, MM, bu0, cbU49, ssfz]
end Sr
end Go.AM

/-
  CONTRACTS of functions of the program, and what they compute, by content.
-/
import Derived.Test.YtbhaeaehgmpfhaaCU17
set_option linter.unusedVariables false
set_option linter.unusedSimpArgs false
set_option maxRecDepth 8000
namespace Go.AM
open Go.Proofs
def fidxG {α : Type} (pr : α → Bool) (l : List α) : Int := match l.findIdx? pr with | some i => i | none => -1
theorem fidxG_nonneg {α : Type} (pr : α → Bool) (l : List α) : 0 ≤ fidxG pr l ↔ l.any pr = true := by
  unfold fidxG
  split
  · rename_i i e
    rw [List.findIdx?_eq_some_iff_getElem] at e
    obtain ⟨hi, h1, _⟩ := e
    simp only [List.any_eq_true]
    exact ⟨fun _ => ⟨_, List.getElem_mem hi, h1⟩, fun _ => by omega⟩
  · rename_i e
    rw [List.findIdx?_eq_none_iff] at e
    simp only [List.any_eq_true]
    exact ⟨fun q => by omega, fun ⟨x, hx, hp⟩ => by rw [e x hx] at hp; cases hp⟩
theorem fidxG_at {α : Type} (pr : α → Bool) (l : List α) (d : α) (k : Nat) (hk : k < l.length) (h1 : ∀ x ∈ l.take k, pr x = false) (h2 : pr (l.getD k d) = true) : fidxG pr l = k := by
  have : l.findIdx? pr = some k := by
    rw [List.findIdx?_eq_some_iff_getElem]
    refine ⟨hk, by rw [← getD_eq l k d hk]; exact h2, fun j hj => ?_⟩
    have := h1 (l[j]) (by rw [List.mem_take_iff_getElem]; exact ⟨j, by omega, rfl⟩)
    simpa using this
  rw [fidxG, this]
theorem fidxG_none {α : Type} (pr : α → Bool) (l : List α) (h : ∀ x ∈ l, pr x = false) : fidxG pr l = -1 := by
  have : l.findIdx? pr = none := by rw [List.findIdx?_eq_none_iff]; exact h
  rw [fidxG, this]
theorem indexFuncT (l : List (List Twist)) (g : FuncId) (caps : List AV) (pr : List Twist → Bool) (hM : MM g = []) (hb : AV.bearsL caps = false) (hv : ∀ mem, AV.views mem caps = caps) (h : ∀ x ∈ l, SpecAt Try.prog g ([tsl x] ++ caps) (.bl (pr x))) (hl : l.length ≤ 1099511627776) :
    SpecAt Try.prog 202 [tssl l, .fn g caps] (.i64 (fidxG pr l)) := by
  unfold MM at hM
  refine spec_of_awp (M := MM) (np := 2) (fz := true) mixed Try.func202 rfl rfl (by decide) rfl (Nat.le_refl _) (by decide +kernel) (.inr ⟨rfl, rfl⟩) trivial ?_
  simp -dsimp -implicitDefEqProofs (disch := first | omega | (simp only [lenr]; done) | (simp only [lenr]; omega)) only [↓amPre, amPost0, amPost1, amPost2, amPost3, ↓reduceIte, reduceCtorEq, Nat.reduceEqDiff, Nat.reduceBEq, Nat.reduceAdd, Nat.reduceLeDiff, Nat.reduceSub, Nat.reduceMul, Int.reduceToNat, List.size_toArray, tyF, MM, bu0, ipure, kpure, tpure, sspure, kset, tset, ksnoc, tsnoc, Kind.av, Twist.sl, Twist.tr, Invar.av, stsize, stget, sttl, stapp, stext, tsspure, Model.sl, Model.tr]
  refine awp_loop (fun k st => k ≤ l.length ∧ st.fr 8 = .i64 k ∧ st.fr 7 = .i64 l.length ∧ st.fr 0 = tssl l ∧ st.fr 1 = .fn g caps ∧ ∀ x ∈ l.take k, pr x = false) (l.length) ?_ ?_
  · simp -dsimp -implicitDefEqProofs (disch := first | omega | (simp only [lenr]; done) | (simp only [lenr]; omega)) only [↓amPre, amPost0, amPost1, amPost2, amPost3, ↓reduceIte, reduceCtorEq, Nat.reduceEqDiff, Nat.reduceBEq, Nat.reduceAdd, Nat.reduceLeDiff, Nat.reduceSub, Nat.reduceMul, Int.reduceToNat, List.size_toArray, tyF, MM, bu0, ipure, kpure, tpure, sspure, kset, tset, ksnoc, tsnoc, Kind.av, Twist.sl, Twist.tr, Invar.av, stsize, stget, sttl, stapp, stext, tsspure, Model.sl, Model.tr]
    simp
  rintro k st _ ⟨hk, f8, f7, f0, f1, ek⟩
  by_cases hlt : k < l.length
  · have hmem := mem_getD l k default hlt
    simp -dsimp -implicitDefEqProofs (disch := first | omega | (simp only [lenr]; done) | (simp only [lenr]; omega)) only [↓amPre, amPost0, amPost1, amPost2, amPost3, ↓reduceIte, reduceCtorEq, Nat.reduceEqDiff, Nat.reduceBEq, Nat.reduceAdd, Nat.reduceLeDiff, Nat.reduceSub, Nat.reduceMul, Int.reduceToNat, List.size_toArray, tyF, MM, bu0, ipure, kpure, tpure, sspure, kset, tset, ksnoc, tsnoc, Kind.av, Twist.sl, Twist.tr, Invar.av, stsize, stget, sttl, stapp, stext, tsspure, Model.sl, Model.tr, f8, f7, f0, f1, hM, hb, hv]
    refine callP_of (h _ hmem) ?_
    cases w : pr (l.getD k default) with
    | true =>
      simp -dsimp -implicitDefEqProofs (disch := first | omega | (simp only [lenr]; done) | (simp only [lenr]; omega)) only [↓amPre, amPost0, amPost1, amPost2, amPost3, ↓reduceIte, reduceCtorEq, Nat.reduceEqDiff, Nat.reduceBEq, Nat.reduceAdd, Nat.reduceLeDiff, Nat.reduceSub, Nat.reduceMul, Int.reduceToNat, List.size_toArray, tyF, MM, bu0, ipure, kpure, tpure, sspure, kset, tset, ksnoc, tsnoc, Kind.av, Twist.sl, Twist.tr, Invar.av, stsize, stget, sttl, stapp, stext, tsspure, Model.sl, Model.tr, f8, f7, f0, f1, w]
      rw [fidxG_at pr l default k hlt ek w]
    | false =>
      simp -dsimp -implicitDefEqProofs (disch := first | omega | (simp only [lenr]; done) | (simp only [lenr]; omega)) only [↓amPre, amPost0, amPost1, amPost2, amPost3, ↓reduceIte, reduceCtorEq, Nat.reduceEqDiff, Nat.reduceBEq, Nat.reduceAdd, Nat.reduceLeDiff, Nat.reduceSub, Nat.reduceMul, Int.reduceToNat, List.size_toArray, tyF, MM, bu0, ipure, kpure, tpure, sspure, kset, tset, ksnoc, tsnoc, Kind.av, Twist.sl, Twist.tr, Invar.av, stsize, stget, sttl, stapp, stext, tsspure, Model.sl, Model.tr, f8, f7, f0, f1, w]
      repeat' (first | omega | rfl | exact i64c (by omega) | exact vic (by omega) | exact (mem_take_succ (d := default) hlt).2 ⟨ek, w⟩ | apply And.intro)
  · have hke : k = l.length := by omega
    subst hke
    rw [List.take_length] at ek
    simp -dsimp -implicitDefEqProofs (disch := first | omega | (simp only [lenr]; done) | (simp only [lenr]; omega)) only [↓amPre, amPost0, amPost1, amPost2, amPost3, ↓reduceIte, reduceCtorEq, Nat.reduceEqDiff, Nat.reduceBEq, Nat.reduceAdd, Nat.reduceLeDiff, Nat.reduceSub, Nat.reduceMul, Int.reduceToNat, List.size_toArray, tyF, MM, bu0, ipure, kpure, tpure, sspure, kset, tset, ksnoc, tsnoc, Kind.av, Twist.sl, Twist.tr, Invar.av, stsize, stget, sttl, stapp, stext, tsspure, Model.sl, Model.tr, f8, f7, f0, f1]
    rw [fidxG_none pr l ek]
theorem containsFuncT (l : List (List Twist)) (g : FuncId) (caps : List AV) (pr : List Twist → Bool) (hM : MM g = []) (hb : AV.bearsL caps = false) (hv : ∀ mem, AV.views mem caps = caps) (h : ∀ x ∈ l, SpecAt Try.prog g ([tsl x] ++ caps) (.bl (pr x))) (hl : l.length ≤ 1099511627776) :
    SpecAt Try.prog 176 [tssl l, .fn g caps] (.bl (l.any pr)) := by
  refine spec_of_awp (M := MM) (np := 2) (fz := true) mixed Try.func176 rfl rfl (by decide) rfl (Nat.le_refl _) (by decide +kernel) (.inr ⟨rfl, rfl⟩) trivial ?_
  simp -dsimp -implicitDefEqProofs (disch := first | omega | (simp only [lenr]; done) | (simp only [lenr]; omega)) only [↓amPre, amPost0, amPost1, amPost2, amPost3, ↓reduceIte, reduceCtorEq, Nat.reduceEqDiff, Nat.reduceBEq, Nat.reduceAdd, Nat.reduceLeDiff, Nat.reduceSub, Nat.reduceMul, Int.reduceToNat, List.size_toArray, tyF, MM, bu0, ipure, kpure, tpure, sspure, kset, tset, ksnoc, tsnoc, Kind.av, Twist.sl, Twist.tr, Invar.av, stsize, stget, sttl, stapp, stext, tsspure, Model.sl, Model.tr, hb, hv]
  refine callP_of (indexFuncT l g caps pr hM hb hv h hl) ?_
  simp -dsimp -implicitDefEqProofs (disch := first | omega | (simp only [lenr]; done) | (simp only [lenr]; omega)) only [↓amPre, amPost0, amPost1, amPost2, amPost3, ↓reduceIte, reduceCtorEq, Nat.reduceEqDiff, Nat.reduceBEq, Nat.reduceAdd, Nat.reduceLeDiff, Nat.reduceSub, Nat.reduceMul, Int.reduceToNat, List.size_toArray, tyF, MM, bu0, ipure, kpure, tpure, sspure, kset, tset, ksnoc, tsnoc, Kind.av, Twist.sl, Twist.tr, Invar.av, stsize, stget, sttl, stapp, stext, tsspure, Model.sl, Model.tr]
  refine bl_eq ?_
  simp only [decide_eq_true_eq, fidxG_nonneg]
theorem iIsValidPM1 (s : List Twist) (m : Model) (h1 : m.ks.length ≤ 1099511627776) (hs : smallT s) : SpecAt Try.prog 177 [tsl s, .ep [ksl m.ks, .st m.nm, tssl m.mv]] (.bl (!decide (psOk m.ks s))) := by
  refine spec_of_awp (M := MM) (np := 2) (fz := true) mixed Try.func177 rfl rfl (by decide) rfl (Nat.le_refl _) (by decide +kernel) (.inr ⟨rfl, rfl⟩) trivial ?_
  simp -dsimp -implicitDefEqProofs (disch := first | omega | (simp only [lenr]; done) | (simp only [lenr]; omega)) only [↓amPre, amPost0, amPost1, amPost2, amPost3, ↓reduceIte, reduceCtorEq, Nat.reduceEqDiff, Nat.reduceBEq, Nat.reduceAdd, Nat.reduceLeDiff, Nat.reduceSub, Nat.reduceMul, Int.reduceToNat, List.size_toArray, tyF, MM, bu0, ipure, kpure, tpure, sspure, kset, tset, ksnoc, tsnoc, Kind.av, Twist.sl, Twist.tr, Invar.av, stsize, stget, sttl, stapp, stext, tsspure, Model.sl, Model.tr]
  refine callP_of (iIsPieceState m.ks s h1 hs.1 hs.2) ?_
  simp -dsimp -implicitDefEqProofs (disch := first | omega | (simp only [lenr]; done) | (simp only [lenr]; omega)) only [↓amPre, amPost0, amPost1, amPost2, amPost3, ↓reduceIte, reduceCtorEq, Nat.reduceEqDiff, Nat.reduceBEq, Nat.reduceAdd, Nat.reduceLeDiff, Nat.reduceSub, Nat.reduceMul, Int.reduceToNat, List.size_toArray, tyF, MM, bu0, ipure, kpure, tpure, sspure, kset, tset, ksnoc, tsnoc, Kind.av, Twist.sl, Twist.tr, Invar.av, stsize, stget, sttl, stapp, stext, tsspure, Model.sl, Model.tr]
theorem iIsValidPieceModel (m : Model) (h : smallM m) : SpecAt Try.prog 127 [m.sl] (.bl (decide (modelOk m))) := by
  have h2 := h.2.1
  have h3 := h.2.2.1
  refine spec_of_awp (M := MM) (np := 1) (fz := true) mixed Try.func127 rfl rfl (by decide) rfl (Nat.le_refl _) (by decide +kernel) (.inr ⟨rfl, rfl⟩) trivial ?_
  have fin : ∀ b : Bool, (b = true ↔ modelOk m) → Value.bool b = Value.bool (decide (modelOk m)) := fun b h => bl_eq (by rw [h, decide_eq_true_iff])
  simp -dsimp -implicitDefEqProofs (disch := first | omega | (simp only [lenr]; done) | (simp only [lenr]; omega)) only [↓amPre, amPost0, amPost1, amPost2, amPost3, ↓reduceIte, reduceCtorEq, Nat.reduceEqDiff, Nat.reduceBEq, Nat.reduceAdd, Nat.reduceLeDiff, Nat.reduceSub, Nat.reduceMul, Int.reduceToNat, List.size_toArray, tyF, MM, bu0, ipure, kpure, tpure, sspure, kset, tset, ksnoc, tsnoc, Kind.av, Twist.sl, Twist.tr, Invar.av, stsize, stget, sttl, stapp, stext, tsspure, Model.sl, Model.tr]
  refine callP_of (iAreValidKinds m.ks h.1) ?_
  by_cases c1 : kindsOk m.ks
  case neg =>
    simp -dsimp -implicitDefEqProofs (disch := first | omega | (simp only [lenr]; done) | (simp only [lenr]; omega)) only [↓amPre, amPost0, amPost1, amPost2, amPost3, ↓reduceIte, reduceCtorEq, Nat.reduceEqDiff, Nat.reduceBEq, Nat.reduceAdd, Nat.reduceLeDiff, Nat.reduceSub, Nat.reduceMul, Int.reduceToNat, List.size_toArray, tyF, MM, bu0, ipure, kpure, tpure, sspure, kset, tset, ksnoc, tsnoc, Kind.av, Twist.sl, Twist.tr, Invar.av, stsize, stget, sttl, stapp, stext, tsspure, Model.sl, Model.tr, c1]
    refine fin _ ?_
    simp only [modelOk, c1, false_and, reduceCtorEq]
  simp -dsimp -implicitDefEqProofs (disch := first | omega | (simp only [lenr]; done) | (simp only [lenr]; omega)) only [↓amPre, amPost0, amPost1, amPost2, amPost3, ↓reduceIte, reduceCtorEq, Nat.reduceEqDiff, Nat.reduceBEq, Nat.reduceAdd, Nat.reduceLeDiff, Nat.reduceSub, Nat.reduceMul, Int.reduceToNat, List.size_toArray, tyF, MM, bu0, ipure, kpure, tpure, sspure, kset, tset, ksnoc, tsnoc, Kind.av, Twist.sl, Twist.tr, Invar.av, stsize, stget, sttl, stapp, stext, tsspure, Model.sl, Model.tr, c1]
  refine callP_of (iisNames m.nm h.2.1) ?_
  by_cases c2 : namesOk m.nm
  case neg =>
    simp -dsimp -implicitDefEqProofs (disch := first | omega | (simp only [lenr]; done) | (simp only [lenr]; omega)) only [↓amPre, amPost0, amPost1, amPost2, amPost3, ↓reduceIte, reduceCtorEq, Nat.reduceEqDiff, Nat.reduceBEq, Nat.reduceAdd, Nat.reduceLeDiff, Nat.reduceSub, Nat.reduceMul, Int.reduceToNat, List.size_toArray, tyF, MM, bu0, ipure, kpure, tpure, sspure, kset, tset, ksnoc, tsnoc, Kind.av, Twist.sl, Twist.tr, Invar.av, stsize, stget, sttl, stapp, stext, tsspure, Model.sl, Model.tr, c1, c2]
    refine fin _ ?_
    simp only [modelOk, c2, false_and, and_false, reduceCtorEq]
  by_cases c3 : (m.nm.length : Int) = m.mv.length
  case neg =>
    simp -dsimp -implicitDefEqProofs (disch := first | omega | (simp only [lenr]; done) | (simp only [lenr]; omega)) only [↓amPre, amPost0, amPost1, amPost2, amPost3, ↓reduceIte, reduceCtorEq, Nat.reduceEqDiff, Nat.reduceBEq, Nat.reduceAdd, Nat.reduceLeDiff, Nat.reduceSub, Nat.reduceMul, Int.reduceToNat, List.size_toArray, tyF, MM, bu0, ipure, kpure, tpure, sspure, kset, tset, ksnoc, tsnoc, Kind.av, Twist.sl, Twist.tr, Invar.av, stsize, stget, sttl, stapp, stext, tsspure, Model.sl, Model.tr, c1, c2, eq_false c3]
    refine fin _ ?_
    simp only [reduceCtorEq, false_iff]
    intro q; have := q.2.2.1; omega
  simp -dsimp -implicitDefEqProofs (disch := first | omega | (simp only [lenr]; done) | (simp only [lenr]; omega)) only [↓amPre, amPost0, amPost1, amPost2, amPost3, ↓reduceIte, reduceCtorEq, Nat.reduceEqDiff, Nat.reduceBEq, Nat.reduceAdd, Nat.reduceLeDiff, Nat.reduceSub, Nat.reduceMul, Int.reduceToNat, List.size_toArray, tyF, MM, bu0, ipure, kpure, tpure, sspure, kset, tset, ksnoc, tsnoc, Kind.av, Twist.sl, Twist.tr, Invar.av, stsize, stget, sttl, stapp, stext, tsspure, Model.sl, Model.tr, c1, c2, eq_true c3]
  refine callP_of (containsFuncT m.mv _ _ (fun s => !decide (psOk m.ks s)) rfl rfl (fun _ => rfl) (fun s hs => iIsValidPM1 s m h.1 (h.2.2.2 s hs)) h3) ?_
  simp -dsimp -implicitDefEqProofs (disch := first | omega | (simp only [lenr]; done) | (simp only [lenr]; omega)) only [↓amPre, amPost0, amPost1, amPost2, amPost3, ↓reduceIte, reduceCtorEq, Nat.reduceEqDiff, Nat.reduceBEq, Nat.reduceAdd, Nat.reduceLeDiff, Nat.reduceSub, Nat.reduceMul, Int.reduceToNat, List.size_toArray, tyF, MM, bu0, ipure, kpure, tpure, sspure, kset, tset, ksnoc, tsnoc, Kind.av, Twist.sl, Twist.tr, Invar.av, stsize, stget, sttl, stapp, stext, tsspure, Model.sl, Model.tr, c1, c2, eq_true c3]
  refine fin _ ?_
  have c3' : m.nm.length = m.mv.length := by omega
  simp only [Bool.not_eq_true', List.any_eq_false, Bool.not_eq_true, Bool.not_eq_false', decide_eq_false_iff_not, Decidable.not_not, modelOk, c1, c2, c3', true_and]
theorem sIsValidPieceModel (m : Model) (h : smallM m) : SpecAt Try.prog 119 [m.sl] (.bl (decide (modelOk m))) := by
  have h2 := h.2.1
  have h3 := h.2.2.1
  refine spec_of_awp (M := MM) (np := 1) (fz := true) mixed Try.func119 rfl rfl (by decide) rfl (Nat.le_refl _) (by decide +kernel) (.inr ⟨rfl, rfl⟩) trivial ?_
  have fin : ∀ b : Bool, (b = true ↔ modelOk m) → Value.bool b = Value.bool (decide (modelOk m)) := fun b h => bl_eq (by rw [h, decide_eq_true_iff])
  simp -dsimp -implicitDefEqProofs (disch := first | omega | (simp only [lenr]; done) | (simp only [lenr]; omega)) only [↓amPre, amPost0, amPost1, amPost2, amPost3, ↓reduceIte, reduceCtorEq, Nat.reduceEqDiff, Nat.reduceBEq, Nat.reduceAdd, Nat.reduceLeDiff, Nat.reduceSub, Nat.reduceMul, Int.reduceToNat, List.size_toArray, tyF, MM, bu0, ipure, kpure, tpure, sspure, kset, tset, ksnoc, tsnoc, Kind.av, Twist.sl, Twist.tr, Invar.av, stsize, stget, sttl, stapp, stext, tsspure, Model.sl, Model.tr]
  refine callP_of (sAreValidKinds m.ks h.1) ?_
  by_cases c1 : kindsOk m.ks
  case neg =>
    simp -dsimp -implicitDefEqProofs (disch := first | omega | (simp only [lenr]; done) | (simp only [lenr]; omega)) only [↓amPre, amPost0, amPost1, amPost2, amPost3, ↓reduceIte, reduceCtorEq, Nat.reduceEqDiff, Nat.reduceBEq, Nat.reduceAdd, Nat.reduceLeDiff, Nat.reduceSub, Nat.reduceMul, Int.reduceToNat, List.size_toArray, tyF, MM, bu0, ipure, kpure, tpure, sspure, kset, tset, ksnoc, tsnoc, Kind.av, Twist.sl, Twist.tr, Invar.av, stsize, stget, sttl, stapp, stext, tsspure, Model.sl, Model.tr, c1]
    refine fin _ ?_
    simp only [modelOk, c1, false_and, reduceCtorEq]
  simp -dsimp -implicitDefEqProofs (disch := first | omega | (simp only [lenr]; done) | (simp only [lenr]; omega)) only [↓amPre, amPost0, amPost1, amPost2, amPost3, ↓reduceIte, reduceCtorEq, Nat.reduceEqDiff, Nat.reduceBEq, Nat.reduceAdd, Nat.reduceLeDiff, Nat.reduceSub, Nat.reduceMul, Int.reduceToNat, List.size_toArray, tyF, MM, bu0, ipure, kpure, tpure, sspure, kset, tset, ksnoc, tsnoc, Kind.av, Twist.sl, Twist.tr, Invar.av, stsize, stget, sttl, stapp, stext, tsspure, Model.sl, Model.tr, c1]
  refine callP_of (inRange _ _ _) ?_
  by_cases c2 : 1 ≤ (m.mv.length : Int) ∧ (m.mv.length : Int) ≤ 8
  case neg =>
    simp -dsimp -implicitDefEqProofs (disch := first | omega | (simp only [lenr]; done) | (simp only [lenr]; omega)) only [↓amPre, amPost0, amPost1, amPost2, amPost3, ↓reduceIte, reduceCtorEq, Nat.reduceEqDiff, Nat.reduceBEq, Nat.reduceAdd, Nat.reduceLeDiff, Nat.reduceSub, Nat.reduceMul, Int.reduceToNat, List.size_toArray, tyF, MM, bu0, ipure, kpure, tpure, sspure, kset, tset, ksnoc, tsnoc, Kind.av, Twist.sl, Twist.tr, Invar.av, stsize, stget, sttl, stapp, stext, tsspure, Model.sl, Model.tr, within_not.2 c2]
    refine fin _ ?_
    simp only [reduceCtorEq, false_iff]
    intro q; have := q.2.1.2; have := q.2.2.1; omega
  simp -dsimp -implicitDefEqProofs (disch := first | omega | (simp only [lenr]; done) | (simp only [lenr]; omega)) only [↓amPre, amPost0, amPost1, amPost2, amPost3, ↓reduceIte, reduceCtorEq, Nat.reduceEqDiff, Nat.reduceBEq, Nat.reduceAdd, Nat.reduceLeDiff, Nat.reduceSub, Nat.reduceMul, Int.reduceToNat, List.size_toArray, tyF, MM, bu0, ipure, kpure, tpure, sspure, kset, tset, ksnoc, tsnoc, Kind.av, Twist.sl, Twist.tr, Invar.av, stsize, stget, sttl, stapp, stext, tsspure, Model.sl, Model.tr, within_iff.2 c2]
  refine callP_of (svalidNames m.nm m.mv.length h.2.1) ?_
  by_cases c3 : m.nm.length = m.mv.length ∧ lettersOk m.nm
  case neg =>
    simp -dsimp -implicitDefEqProofs (disch := first | omega | (simp only [lenr]; done) | (simp only [lenr]; omega)) only [↓amPre, amPost0, amPost1, amPost2, amPost3, ↓reduceIte, reduceCtorEq, Nat.reduceEqDiff, Nat.reduceBEq, Nat.reduceAdd, Nat.reduceLeDiff, Nat.reduceSub, Nat.reduceMul, Int.reduceToNat, List.size_toArray, tyF, MM, bu0, ipure, kpure, tpure, sspure, kset, tset, ksnoc, tsnoc, Kind.av, Twist.sl, Twist.tr, Invar.av, stsize, stget, sttl, stapp, stext, tsspure, Model.sl, Model.tr, decide_eq_false c3]
    refine fin _ ?_
    simp only [reduceCtorEq, false_iff]
    intro q; exact c3 ⟨q.2.2.1, q.2.1.1⟩
  simp -dsimp -implicitDefEqProofs (disch := first | omega | (simp only [lenr]; done) | (simp only [lenr]; omega)) only [↓amPre, amPost0, amPost1, amPost2, amPost3, ↓reduceIte, reduceCtorEq, Nat.reduceEqDiff, Nat.reduceBEq, Nat.reduceAdd, Nat.reduceLeDiff, Nat.reduceSub, Nat.reduceMul, Int.reduceToNat, List.size_toArray, tyF, MM, bu0, ipure, kpure, tpure, sspure, kset, tset, ksnoc, tsnoc, Kind.av, Twist.sl, Twist.tr, Invar.av, stsize, stget, sttl, stapp, stext, tsspure, Model.sl, Model.tr, decide_eq_true c3]
  have hnk : namesOk m.nm := ⟨c3.2, by omega, by omega⟩
  refine awp_loop (fun k st => k ≤ m.mv.length ∧ st.fr 3 = .i64 k ∧ st.fr 1 = .loc 1 [] 0 0 ∧ st.mem 1 = some (.pt 3 (.agg [ksl m.ks, .st m.nm, tssl m.mv])) ∧ ∀ s ∈ m.mv.take k, psOk m.ks s) (m.mv.length) ?_ ?_
  · simp -dsimp -implicitDefEqProofs (disch := first | omega | (simp only [lenr]; done) | (simp only [lenr]; omega)) only [↓amPre, amPost0, amPost1, amPost2, amPost3, ↓reduceIte, reduceCtorEq, Nat.reduceEqDiff, Nat.reduceBEq, Nat.reduceAdd, Nat.reduceLeDiff, Nat.reduceSub, Nat.reduceMul, Int.reduceToNat, List.size_toArray, tyF, MM, bu0, ipure, kpure, tpure, sspure, kset, tset, ksnoc, tsnoc, Kind.av, Twist.sl, Twist.tr, Invar.av, stsize, stget, sttl, stapp, stext, tsspure, Model.sl, Model.tr]
    simp
  rintro k st _ ⟨hk, f3, f1, m1, ek⟩
  by_cases hlt : k < m.mv.length
  · have hsm := h.2.2.2 _ (mem_getD m.mv k default hlt)
    simp -dsimp -implicitDefEqProofs (disch := first | omega | (simp only [lenr]; done) | (simp only [lenr]; omega)) only [↓amPre, amPost0, amPost1, amPost2, amPost3, ↓reduceIte, reduceCtorEq, Nat.reduceEqDiff, Nat.reduceBEq, Nat.reduceAdd, Nat.reduceLeDiff, Nat.reduceSub, Nat.reduceMul, Int.reduceToNat, List.size_toArray, tyF, MM, bu0, ipure, kpure, tpure, sspure, kset, tset, ksnoc, tsnoc, Kind.av, Twist.sl, Twist.tr, Invar.av, stsize, stget, sttl, stapp, stext, tsspure, Model.sl, Model.tr, f3, f1, m1]
    refine callP_of (sIsPieceState m.ks (m.mv.getD k default) h.1 hsm.1 hsm.2) ?_
    by_cases w : psOk m.ks (m.mv.getD k default)
    · simp -dsimp -implicitDefEqProofs (disch := first | omega | (simp only [lenr]; done) | (simp only [lenr]; omega)) only [↓amPre, amPost0, amPost1, amPost2, amPost3, ↓reduceIte, reduceCtorEq, Nat.reduceEqDiff, Nat.reduceBEq, Nat.reduceAdd, Nat.reduceLeDiff, Nat.reduceSub, Nat.reduceMul, Int.reduceToNat, List.size_toArray, tyF, MM, bu0, ipure, kpure, tpure, sspure, kset, tset, ksnoc, tsnoc, Kind.av, Twist.sl, Twist.tr, Invar.av, stsize, stget, sttl, stapp, stext, tsspure, Model.sl, Model.tr, f3, f1, m1, w]
      repeat' (first | omega | rfl | exact i64c (by omega) | exact vic (by omega) | exact (mem_take_succ (d := default) hlt).2 ⟨ek, w⟩ | apply And.intro)
    · simp -dsimp -implicitDefEqProofs (disch := first | omega | (simp only [lenr]; done) | (simp only [lenr]; omega)) only [↓amPre, amPost0, amPost1, amPost2, amPost3, ↓reduceIte, reduceCtorEq, Nat.reduceEqDiff, Nat.reduceBEq, Nat.reduceAdd, Nat.reduceLeDiff, Nat.reduceSub, Nat.reduceMul, Int.reduceToNat, List.size_toArray, tyF, MM, bu0, ipure, kpure, tpure, sspure, kset, tset, ksnoc, tsnoc, Kind.av, Twist.sl, Twist.tr, Invar.av, stsize, stget, sttl, stapp, stext, tsspure, Model.sl, Model.tr, w]
      refine fin _ ?_
      simp only [reduceCtorEq, false_iff]
      intro q; exact w (q.2.2.2 _ (mem_getD m.mv k default hlt))
  · have hke : k = m.mv.length := by omega
    subst hke
    rw [List.take_length] at ek
    simp -dsimp -implicitDefEqProofs (disch := first | omega | (simp only [lenr]; done) | (simp only [lenr]; omega)) only [↓amPre, amPost0, amPost1, amPost2, amPost3, ↓reduceIte, reduceCtorEq, Nat.reduceEqDiff, Nat.reduceBEq, Nat.reduceAdd, Nat.reduceLeDiff, Nat.reduceSub, Nat.reduceMul, Int.reduceToNat, List.size_toArray, tyF, MM, bu0, ipure, kpure, tpure, sspure, kset, tset, ksnoc, tsnoc, Kind.av, Twist.sl, Twist.tr, Invar.av, stsize, stget, sttl, stapp, stext, tsspure, Model.sl, Model.tr, f3, f1, m1]
    refine fin _ ?_
    simp only [true_iff]
    exact ⟨c1, hnk, c3.1, ek⟩
end Go.AM

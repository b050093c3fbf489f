/-
  CONTRACTS of functions of the program, and what they compute, by content.
-/
import Derived.Test.YtbhaeaehgmpfhaaCE0
set_option linter.unusedVariables false
set_option linter.unusedSimpArgs false
namespace Go.AM
/-- both cells of a variable are nil: looked at as empty trees -/
def St.nilC2 (st : St) (s z w : Nat) : St := (st.nilC s 0 z w [.nilsl, .nilsl]).nilC s 1 z w [.tr w [], .nilsl]
theorem nilC2_eq (st : St) (s z w : Nat) : st.nilC2 s z w = (((st.mapF (fromF s [(0, 0)])).setMem s (.pt z (.agg [.tr w [], .nilsl]))).mapF (fromF s [(0, 1)])).setMem s (.pt z (.agg [.tr w [], .tr w []])) := rfl
theorem ent_nilC2 (st : St) (s z w : Nat) (hm : st.mem s = some (.pt z (.agg [.nilsl, .nilsl]))) : Ent st (st.nilC2 s z w) :=
  (ent_nilC st s 0 z w _ hm (by simp) rfl).trans (ent_nilC _ s 1 z w _ (by simp [St.nilC, St.setMem]) (by simp) rfl)
theorem awp_loopD {P : Program} {M : FuncId → List Bool} {c : Code} {Q : Exit → St → Prop} {st : St} {l : Lock c} {m : Lock Q} (s z w : Nat) (hm : st.mem s = some (.pt z (.agg [.nilsl, .nilsl]))) (J : Nat → St → Prop) (N : Nat) (h0 : J 0 (st.nilC2 s z w))
    (h : ∀ k st1, k ≤ N → J k st1 → AWP P M c (thenQ (fun st' => k < N ∧ J (k + 1) st') Q) st1) : LoopP P M c Q st l m :=
  awp_loopE (st.nilC2 s z w) (ent_nilC2 st s z w hm) J N h0 h
end Go.AM

/-
  The law FnInvariantIndex holds: for every argument that its row allows, the law returns true and leaves its arguments as they were. Conditions: those of the given row, none besides.
-/
import Derived.Test.YtenlmhbkigfjeaaCB0
import Derived.Test.YtenlmhbkigfjeaaCB3
import Derived.Test.YtenlmhbkigfjeaaRows
namespace Go.Proofs.Ytenlmhbkigfjeaa.fnInvariantIndex
open Go.ChangeShapes Go.WideShapes Go.ChangeAt Go.RowKit Go.AM
set_option linter.unusedVariables false
set_option linter.unusedSimpArgs false

theorem own : ownKnob Try.prog.godebug = none := by kernel_rfl
theorem laid : laidOutB Try.prog = true := by kernel_rfl

set_option maxRecDepth 100000 in
theorem lifted (os : Os) (started : os.Started) (H : Type) (enc : TypeId × Value → H) :
    ReturnsInHanded {} Try.checked os 12 .any (Rows.fnInvariantIndexSpec.pre6 enc Try.prog Try.f12 Rows.fnInvariantIndexRow.domain false) (Rows.fnInvariantIndexSpec.post enc Try.prog Try.f12 false true false false) := by
  refine returnsInHanded_of_change (C := Try.checked) own started (by kernel_rfl) Try.func12
    (ChangeSpec.witness6 (enc := enc) (C := Try.checked) false ⟨#[], #[.slice none 0 0], []⟩ 8 (by kernel_rfl) (by kernel_rfl) (by kernel_rfl) (by kernel_rfl)) ?_
  intro W base args ds gs before hval0 hW hcnd _
  have hval : ∀ (j : Nat) t v, Try.f12.params[j]? = some t → args[j]? = some v → Value.okWide Try.prog W .any base t v := hval0
  have hW1 := hW
  obtain ⟨p, q, hA0, hV, hpq, hfz, hnd⟩ := hW
  have hA : DataW.TrodAll enc Try.prog W 0 (fun _ => true) true Try.f12.params.toList args.toList ds p := hA0
  rw [Try.params12] at hA hval
  obtain ⟨v0, vs0, d0, ds0, p0, q0, ha0, hd0, hp0, h0, r0⟩ := trodAll_cons hA
  obtain ⟨e1, e2, e3⟩ := trodAll_nil r0
  subst e1 e2
  obtain rfl : args = #[v0] := by apply Array.toList_inj.1; rw [ha0]
  subst hd0
  obtain ⟨a0, w0, x0⟩ := Opens.one Draws.openBytes (el := Draws.bsl) (fun _ => rfl) ag22 (hval 0 22 v0 rfl rfl) h0
  exact law_calls (ts := [22]) laid Try.params12 (by kernel_rfl) rfl rfl Try.underlying4 (fun hg => by subst hg; exact ⟨rfl, rfl, rfl⟩) hW1 (Di.lawIndex a0 w0.1) ⟨x0, trivial⟩

set_option maxHeartbeats 20000000 in
theorem closed : joinedFacts Try.pinned.checked.prog 12 Try.f12 Rows.fnInvariantIndexSpec Rows.fnInvariantIndexRow = true := by
  simp only [joinedFacts, Bool.and_eq_true]
  repeat' apply And.intro
  all_goals as_aux_lemma => kernel_rfl
theorem over : Rows.fnInvariantIndexRow.holds Try.pinned (OpenSpec.ofChange Rows.fnInvariantIndexSpec) :=
  OpenClaim.holds_of_wide 12 Try.f12 rfl rfl rfl rfl rfl rfl rfl ⟨rfl, rfl, rfl, rfl, rfl⟩ rfl rfl rfl rfl rfl (by kernel_rfl) Try.func12 closed
    (of_decide_eq_true (by kernel_rfl)) (by unfold Func.isWrapper; first | (rw [if_pos (by decide +kernel)]; kernel_rfl) | (rw [if_neg (by decide +kernel)]; exact ⟨rfl, rfl⟩))
    (fun os started H enc _ => lifted os started H enc)

theorem proved : Rows.FnInvariantIndexSaid :=
  over
#print axioms proved
end Go.Proofs.Ytenlmhbkigfjeaa.fnInvariantIndex

/-
  The law FnMacros holds: for every argument that its row allows, the law returns true and leaves its arguments as they were. Conditions: those of the given row, none besides.
-/
import Derived.Test.YtenlmhbkigfjeaaGreatCB0
import Derived.Test.YtenlmhbkigfjeaaGreatCB3
import Derived.Test.YtenlmhbkigfjeaaGreatRows
namespace Go.Proofs.YtenlmhbkigfjeaaGreat.fnMacros
open Go.ChangeShapes Go.WideShapes Go.ChangeAt Go.RowKit Go.AM
set_option linter.unusedVariables false
set_option linter.unusedSimpArgs false

theorem own : ownKnob Tryz.prog.godebug = none := by kernel_rfl
theorem laid : laidOutB Tryz.prog = true := by kernel_rfl

set_option maxRecDepth 100000 in
theorem lifted (os : Os) (started : os.Started) (H : Type) (enc : TypeId × Value → H) :
    ReturnsInHanded {} Tryz.checked os 4 .any (Rows.fnMacrosSpec.pre6 enc Tryz.prog Tryz.f4 Rows.fnMacrosRow.domain false) (Rows.fnMacrosSpec.post enc Tryz.prog Tryz.f4 false true false false) := by
  refine returnsInHanded_of_change (C := Tryz.checked) own started (by kernel_rfl) Tryz.func4
    (ChangeSpec.witness6 (enc := enc) (C := Tryz.checked) false ⟨#[], #[.slice none 0 0], []⟩ 8 (by kernel_rfl) (by kernel_rfl) (by kernel_rfl) (by kernel_rfl)) ?_
  intro W base args ds gs before hval0 hW hcnd _
  have hval : ∀ (j : Nat) t v, Tryz.f4.params[j]? = some t → args[j]? = some v → Value.okWide Tryz.prog W .any base t v := hval0
  have hW1 := hW
  obtain ⟨p, q, hA0, hV, hpq, hfz, hnd⟩ := hW
  have hA : DataW.TrodAll enc Tryz.prog W 0 (fun _ => true) true Tryz.f4.params.toList args.toList ds p := hA0
  rw [Tryz.params4] at hA hval
  obtain ⟨v0, vs0, d0, ds0, p0, q0, ha0, hd0, hp0, h0, r0⟩ := trodAll_cons hA
  obtain ⟨e1, e2, e3⟩ := trodAll_nil r0
  subst e1 e2
  obtain rfl : args = #[v0] := by apply Array.toList_inj.1; rw [ha0]
  subst hd0
  obtain ⟨a0, w0, x0⟩ := Opens.one Draws.openBytes (el := Draws.bsl) (fun _ => rfl) ag37 (hval 0 37 v0 rfl rfl) h0
  exact law_calls (ts := [37]) laid Tryz.params4 (by kernel_rfl) rfl rfl Tryz.underlying4 (fun hg => by subst hg; exact ⟨rfl, rfl, rfl⟩) hW1 (Dm.lawMacros a0 w0.1) ⟨x0, trivial⟩

set_option maxHeartbeats 20000000 in
theorem closed : joinedFacts Tryz.pinned.checked.prog 4 Tryz.f4 Rows.fnMacrosSpec Rows.fnMacrosRow = true := by
  simp only [joinedFacts, Bool.and_eq_true]
  repeat' apply And.intro
  all_goals as_aux_lemma => kernel_rfl
theorem over : Rows.fnMacrosRow.holds Tryz.pinned (OpenSpec.ofChange Rows.fnMacrosSpec) :=
  OpenClaim.holds_of_wide 4 Tryz.f4 rfl rfl rfl rfl rfl rfl rfl ⟨rfl, rfl, rfl, rfl, rfl⟩ rfl rfl rfl rfl rfl (by kernel_rfl) Tryz.func4 closed
    (of_decide_eq_true (by kernel_rfl)) (by unfold Func.isWrapper; first | (rw [if_pos (by decide +kernel)]; kernel_rfl) | (rw [if_neg (by decide +kernel)]; exact ⟨rfl, rfl⟩))
    (fun os started H enc _ => lifted os started H enc)

theorem proved : Rows.FnMacrosSaid :=
  over
#print axioms proved
end Go.Proofs.YtenlmhbkigfjeaaGreat.fnMacros

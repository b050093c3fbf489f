/-
  The law FnExactFindMacros holds: for every argument that its row allows, the law returns true and leaves its arguments as they were. Conditions: those of the given row, none besides.
-/
import Derived.Test.YtenlmhbkigfjeaaCB0
import Derived.Test.YtenlmhbkigfjeaaCB2
import Derived.Test.YtenlmhbkigfjeaaRows
namespace Go.Proofs.Ytenlmhbkigfjeaa.fnExactFindMacros
open Go.ChangeShapes Go.WideShapes Go.ChangeAt Go.RowKit Go.AM
set_option linter.unusedVariables false
set_option linter.unusedSimpArgs false

theorem own : ownKnob Try.prog.godebug = none := by kernel_rfl
theorem laid : laidOutB Try.prog = true := by kernel_rfl

set_option maxRecDepth 100000 in
theorem lifted (os : Os) (started : os.Started) (H : Type) (enc : TypeId × Value → H) :
    ReturnsInHanded {} Try.checked os 10 .any (Rows.fnExactFindMacrosSpec.pre6 enc Try.prog Try.f10 Rows.fnExactFindMacrosRow.domain false) (Rows.fnExactFindMacrosSpec.post enc Try.prog Try.f10 false true false false) := by
  refine returnsInHanded_of_change (C := Try.checked) own started (by kernel_rfl) Try.func10
    (ChangeSpec.witness6 (enc := enc) (C := Try.checked) false ⟨#[], #[.agg #[.int .i64 0, .string ⟨#[]⟩, .slice none 0 0], .int .i64 0, .int .i64 0], []⟩ 8 (by kernel_rfl) (by kernel_rfl) (by kernel_rfl) (by kernel_rfl)) ?_
  intro W base args ds gs before hval0 hW hcnd _
  have hval : ∀ (j : Nat) t v, Try.f10.params[j]? = some t → args[j]? = some v → Value.okWide Try.prog W .any base t v := hval0
  have hW1 := hW
  obtain ⟨p, q, hA0, hV, hpq, hfz, hnd⟩ := hW
  have hA : DataW.TrodAll enc Try.prog W 0 (fun _ => true) true Try.f10.params.toList args.toList ds p := hA0
  rw [Try.params10] at hA hval
  obtain ⟨v0, vs0, d0, ds0, p0, q0, ha0, hd0, hp0, h0, r0⟩ := trodAll_cons hA
  obtain ⟨v1, vs1, d1, ds1, p1, q1, ha1, hd1, hp1, h1, r1⟩ := trodAll_cons r0
  obtain ⟨v2, vs2, d2, ds2, p2, q2, ha2, hd2, hp2, h2, r2⟩ := trodAll_cons r1
  obtain ⟨e1, e2, e3⟩ := trodAll_nil r2
  subst e1 e2
  subst ha2 hd2
  subst ha1 hd1
  obtain rfl : args = #[v0, v1, v2] := by apply Array.toList_inj.1; rw [ha0]
  subst hd0
  obtain ⟨a0, w0, x0⟩ := Opens.agg openPuzzle ag76 (hval 0 76 v0 rfl rfl) h0
  obtain ⟨a1, w1, x1⟩ := Opens.one openInt (el := AV.i64) (fun _ => rfl) ag2 (hval 1 2 v1 rfl rfl) h1
  obtain ⟨a2, w2, x2⟩ := Opens.one openInt (el := AV.i64) (fun _ => rfl) ag2 (hval 2 2 v2 rfl rfl) h2
  exact law_calls (ts := [76, 2, 2]) laid Try.params10 (by kernel_rfl) rfl rfl Try.underlying4 (fun hg => by subst hg; exact ⟨rfl, rfl, rfl⟩) hW1 (lawFindMacros a0 a1 a2 ⟨w0.1, w0.2.1, w0.2.2.1, fun s hs => (w0.2.2.2 s hs).1⟩) ⟨x0, x1, x2, trivial⟩

set_option maxHeartbeats 20000000 in
theorem closed : joinedFacts Try.pinned.checked.prog 10 Try.f10 Rows.fnExactFindMacrosSpec Rows.fnExactFindMacrosRow = true := by
  simp only [joinedFacts, Bool.and_eq_true]
  repeat' apply And.intro
  all_goals as_aux_lemma => kernel_rfl
theorem over : Rows.fnExactFindMacrosRow.holds Try.pinned (OpenSpec.ofChange Rows.fnExactFindMacrosSpec) :=
  OpenClaim.holds_of_wide 10 Try.f10 rfl rfl rfl rfl rfl rfl rfl ⟨rfl, rfl, rfl, rfl, rfl⟩ rfl rfl rfl rfl rfl (by kernel_rfl) Try.func10 closed
    (of_decide_eq_true (by kernel_rfl)) (by unfold Func.isWrapper; first | (rw [if_pos (by decide +kernel)]; kernel_rfl) | (rw [if_neg (by decide +kernel)]; exact ⟨rfl, rfl⟩))
    (fun os started H enc _ => lifted os started H enc)

theorem proved : Rows.FnExactFindMacrosSaid :=
  over
#print axioms proved
end Go.Proofs.Ytenlmhbkigfjeaa.fnExactFindMacros

/-
  The law FnExactScrambleHistogram holds: for every argument that its row allows, the law returns true and leaves its arguments as they were. Conditions: those of the given row, none besides.
-/
import Derived.Test.YtenlmhbkigfjeaaCB0
import Derived.Test.YtenlmhbkigfjeaaCB2
import Derived.Test.YtenlmhbkigfjeaaRows
namespace Go.Proofs.Ytenlmhbkigfjeaa.fnExactScrambleHistogram
open Go.ChangeShapes Go.WideShapes Go.ChangeAt Go.RowKit Go.AM
set_option linter.unusedVariables false
set_option linter.unusedSimpArgs false

theorem own : ownKnob Try.prog.godebug = none := by kernel_rfl
theorem laid : laidOutB Try.prog = true := by kernel_rfl

set_option maxRecDepth 100000 in
theorem lifted (os : Os) (started : os.Started) (H : Type) (enc : TypeId × Value → H) :
    ReturnsInHanded {} Try.checked os 8 .any (Rows.fnExactScrambleHistogramSpec.pre6 enc Try.prog Try.f8 Rows.fnExactScrambleHistogramRow.domain false) (Rows.fnExactScrambleHistogramSpec.post enc Try.prog Try.f8 false true false false) := by
  refine returnsInHanded_of_change (C := Try.checked) own started (by kernel_rfl) Try.func8
    (ChangeSpec.witness6 (enc := enc) (C := Try.checked) false ⟨#[], #[.agg #[.int .i64 0, .string ⟨#[]⟩, .slice none 0 0], .int .i64 0, .int .i64 0, .int .i64 0], []⟩ 8 (by kernel_rfl) (by kernel_rfl) (by kernel_rfl) (by kernel_rfl)) ?_
  intro W base args ds gs before hval0 hW hcnd _
  have hval : ∀ (j : Nat) t v, Try.f8.params[j]? = some t → args[j]? = some v → Value.okWide Try.prog W .any base t v := hval0
  have hW1 := hW
  obtain ⟨p, q, hA0, hV, hpq, hfz, hnd⟩ := hW
  have hA : DataW.TrodAll enc Try.prog W 0 (fun _ => true) true Try.f8.params.toList args.toList ds p := hA0
  rw [Try.params8] at hA hval
  obtain ⟨v0, vs0, d0, ds0, p0, q0, ha0, hd0, hp0, h0, r0⟩ := trodAll_cons hA
  obtain ⟨v1, vs1, d1, ds1, p1, q1, ha1, hd1, hp1, h1, r1⟩ := trodAll_cons r0
  obtain ⟨v2, vs2, d2, ds2, p2, q2, ha2, hd2, hp2, h2, r2⟩ := trodAll_cons r1
  obtain ⟨v3, vs3, d3, ds3, p3, q3, ha3, hd3, hp3, h3, r3⟩ := trodAll_cons r2
  obtain ⟨e1, e2, e3⟩ := trodAll_nil r3
  subst e1 e2
  subst ha3 hd3
  subst ha2 hd2
  subst ha1 hd1
  obtain rfl : args = #[v0, v1, v2, v3] := by apply Array.toList_inj.1; rw [ha0]
  subst hd0
  obtain ⟨a0, w0, x0⟩ := Opens.agg openPuzzle ag76 (hval 0 76 v0 rfl rfl) h0
  obtain ⟨a1, w1, x1⟩ := Opens.one openInt (el := AV.i64) (fun _ => rfl) ag2 (hval 1 2 v1 rfl rfl) h1
  obtain ⟨a2, w2, x2⟩ := Opens.one openInt (el := AV.i64) (fun _ => rfl) ag2 (hval 2 2 v2 rfl rfl) h2
  obtain ⟨a3, w3, x3⟩ := Opens.one openInt (el := AV.i64) (fun _ => rfl) ag2 (hval 3 2 v3 rfl rfl) h3
  exact law_calls (ts := [76, 2, 2, 2]) laid Try.params8 (by kernel_rfl) rfl rfl Try.underlying4 (fun hg => by subst hg; exact ⟨rfl, rfl, rfl⟩) hW1 (lawScrHist a0 a1 a2 a3 ⟨w0.1, w0.2.1, w0.2.2.1, fun s hs => (w0.2.2.2 s hs).1⟩ w1 w2 w3) ⟨x0, x1, x2, x3, trivial⟩

set_option maxHeartbeats 20000000 in
theorem closed : joinedFacts Try.pinned.checked.prog 8 Try.f8 Rows.fnExactScrambleHistogramSpec Rows.fnExactScrambleHistogramRow = true := by
  simp only [joinedFacts, Bool.and_eq_true]
  repeat' apply And.intro
  all_goals as_aux_lemma => kernel_rfl
theorem over : Rows.fnExactScrambleHistogramRow.holds Try.pinned (OpenSpec.ofChange Rows.fnExactScrambleHistogramSpec) :=
  OpenClaim.holds_of_wide 8 Try.f8 rfl rfl rfl rfl rfl rfl rfl ⟨rfl, rfl, rfl, rfl, rfl⟩ rfl rfl rfl rfl rfl (by kernel_rfl) Try.func8 closed
    (of_decide_eq_true (by kernel_rfl)) (by unfold Func.isWrapper; first | (rw [if_pos (by decide +kernel)]; kernel_rfl) | (rw [if_neg (by decide +kernel)]; exact ⟨rfl, rfl⟩))
    (fun os started H enc _ => lifted os started H enc)

theorem proved : Rows.FnExactScrambleHistogramSaid :=
  over
#print axioms proved
end Go.Proofs.Ytenlmhbkigfjeaa.fnExactScrambleHistogram

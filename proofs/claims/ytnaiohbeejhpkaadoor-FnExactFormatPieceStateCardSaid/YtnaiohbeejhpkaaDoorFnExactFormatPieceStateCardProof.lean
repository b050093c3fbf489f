/-
  The card of the law FnExactFormatPieceState: for every argument that its row allows, the law returns true and leaves its arguments as they were; the listed variables are tied by the given tie.
-/
import Derived.Test.YtnaiohbeejhpkaaDoorCB0
import Derived.Test.YtnaiohbeejhpkaaDoorCB1
import Derived.Test.YtnaiohbeejhpkaaDoorRows
import Derived.Test.YtnaiohbeejhpkaaDoorCards
import Derived.Test.YtnaiohbeejhpkaaDoorTie
import Derived.ProofKit
import Derived.LaidMore
import Derived.OpenShut
import Derived.Stop.Joined
import Derived.SevenTiedAt
import Derived.Lib.LaidTab
namespace Go.Proofs.YtnaiohbeejhpkaaDoor.fnExactFormatPieceStateCard
open Go.ChangeShapes Go.WideShapes Go.ChangeAt Go.RowKit Go.AM
set_option linter.unusedVariables false
set_option linter.unusedSimpArgs false
set_option maxRecDepth 100000

theorem own : ownKnob Tryd.prog.godebug = none := by kernel_rfl
theorem laid : laidOutB Tryd.prog = true := by kernel_rfl
theorem door_met (os : Os) (args : Array Value) : laidMetH Tryd.prog Rows.fnExactFormatPieceStateRow.laid ((World.doorLaid Tryd.prog 2000 os).forCall (fun _ _ => 0) ⟨#[], args, []⟩).memory :=
  laidMetH_of_parts3 (fuel := 8) (laidMet_of_run' 8 (by kernel_rfl) (by kernel_rfl)) (by kernel_rfl) (by kernel_rfl)

theorem base_of {W : World} (h : laidMetH Tryd.prog Rows.fnExactFormatPieceStateRow.laid W) : ∀ b cs, (b, cs) ∈ baseRows → ∃ t f x, W.heap[b]? = some (.cells cs t f) ∧ gho W b 0 = some x := by
  rw [MakeChecks.laidMetH_plain _ _ _ (by kernel_rfl)] at h
  obtain ⟨ps, ⟨g0, t0, cs0, f0, p0, q0, hg0, ht0, hv0, hd0, ⟨g1, t1, cs1, f1, p1, q1, hg1, ht1, hv1, hd1, ⟨g2, t2, cs2, f2, p2, q2, hg2, ht2, hv2, hd2, _, _⟩, _⟩, _⟩, _⟩ := h
  have hg := hg2.symm.trans (by kernel_rfl : _ = some 0)
  obtain rfl := Option.some.inj hg
  have ht := ht2.symm.trans (by kernel_rfl : _ = some 123)
  obtain rfl := Option.some.inj ht
  have hd := hd2
  rw [show (Rows.laid_internal_strconv_uint64pow10 : DataW Unit) = Lib.tabData .u64 Lib.pow10Tab by rfl] at hd
  have hcs := Lib.cells_of_tab Tryd.underlying123 Tryd.underlying114 (by kernel_rfl) (by kernel_rfl) hd
  intro b cs hb
  obtain ⟨rfl, rfl⟩ : b = 0 ∧ cs = cs2 := by
    have := List.mem_singleton.1 hb
    injection this with h1 h2
    exact ⟨h1, by rw [h2, ← hcs]⟩
  have hc := World.var?_cell hg2 hv2 0
  unfold World.var? at hv2
  rw [hg2] at hv2
  simp only [Option.bind_some] at hv2
  split at hv2
  · rename_i c t f hh
    cases hv2
    refine ⟨t, f, .int .u64 1, hh, gho_cell ?_ rfl⟩
    rw [hc]
    have : cs = (Lib.pow10Tab.map fun z => Value.int .u64 z).toArray := by rw [← hcs]
    rw [this]; rfl
  · cases hv2

set_option maxRecDepth 100000 in
theorem lifted (os : Os) (started : os.Started) (H : Type) (enc : TypeId × Value → H) :
    ReturnsInHanded {} Tryd.checked os 4 .any (fun w args => (Rows.fnExactFormatPieceStateSpec.pre enc Tryd.prog Tryd.f4 [] false w args ∧ laidMetH Tryd.prog Rows.fnExactFormatPieceStateRow.laid w) ∧ sizedMet enc Tryd.prog Tryd.f4 (OpenSpec.ofChange Rows.fnExactFormatPieceStateSpec) false w args)
      (Rows.fnExactFormatPieceStateSpec.post enc Tryd.prog Tryd.f4 false true false false) := by
  refine returnsInHanded_of_change_and (C := Tryd.checked) (X := fun w _ => laidMetH Tryd.prog Rows.fnExactFormatPieceStateRow.laid w) (fun _ _ _ hh h => h.of_heap hh) own started (by kernel_rfl) Tryd.func4
    (ChangeSpec.witness_shaped (enc := enc) (C := Tryd.checked) (os := os) (X := fun w _ => laidMetH Tryd.prog Rows.fnExactFormatPieceStateRow.laid w) false (World.doorLaid Tryd.prog 2000 os) #[.slice none 0 0, .slice none 0 0] 8 rfl (World.shaped_of_RefB (by kernel_rfl) (by kernel_rfl)) (by kernel_rfl) (by kernel_rfl) (by kernel_rfl) (door_met os _)) ?_
  intro W base args ds gs before hval0 hW hcnd _ hL _
  have hval : ∀ (j : Nat) t v, Tryd.f4.params[j]? = some t → args[j]? = some v → Value.okWide Tryd.prog W .any base t v := hval0
  have hW1 := hW
  obtain ⟨p, q, hA0, hV, hpq, hfz, hnd⟩ := hW
  have hA : DataW.TrodAll enc Tryd.prog W 0 (fun _ => true) true Tryd.f4.params.toList args.toList ds p := hA0
  rw [Tryd.params4] at hA hval
  obtain ⟨v0, vs0, d0, ds0, p0, q0, ha0, hd0, hp0, h0, r0⟩ := trodAll_cons hA
  obtain ⟨v1, vs1, d1, ds1, p1, q1, ha1, hd1, hp1, h1, r1⟩ := trodAll_cons r0
  obtain ⟨e1, e2, e3⟩ := trodAll_nil r1
  subst e1 e2
  subst ha1 hd1
  obtain rfl : args = #[v0, v1] := by apply Array.toList_inj.1; rw [ha0]
  subst hd0
  obtain ⟨a0, w0, x0⟩ := Opens.one openKinds (el := ksl) (fun _ => rfl) ag31 (hval 0 31 v0 rfl rfl) h0
  obtain ⟨a1, w1, x1⟩ := Opens.one openTwists (el := tsl) (fun _ => rfl) ag32 (hval 1 32 v1 rfl rfl) h1
  exact law_calls (ts := [31, 32]) laid Tryd.params4 (by kernel_rfl) rfl rfl Tryd.underlying4 (fun hg => by subst hg; exact ⟨rfl, rfl, rfl⟩) hW1 (Door.lawFormatPS a0 a1 w0.1 w1.1 (fun t ht => ⟨(w1.2 t ht).1, (w1.2 t ht).2.1⟩)) ⟨x0, x1, trivial⟩ (base_of hL)

theorem over : Rows.FnExactFormatPieceStateSaid :=
  OpenClaim.holds_of_wide 4 Tryd.f4 rfl rfl rfl rfl rfl rfl rfl ⟨rfl, rfl, rfl, rfl, rfl⟩ rfl rfl rfl rfl rfl (by kernel_rfl) Tryd.func4 (by kernel_rfl)
    (of_decide_eq_true (by kernel_rfl)) (by unfold Func.isWrapper; first | (rw [if_pos (by decide +kernel)]; kernel_rfl) | (rw [if_neg (by decide +kernel)]; exact ⟨rfl, rfl⟩))
    (fun os started H enc _ => lifted os started H enc)

theorem proved : Rows.FnExactFormatPieceStateCardSaid :=
  Claim7.holds_tied_plain_at .later [] Rows.fnExactFormatPieceStateCard.laidKinds true Rows.fnExactFormatPieceStateCard.stood.harness Rows.fnExactFormatPieceStateCard.stood.looks
    over (fun _ h => by cases h) (by kernel_rfl) (fun _ h => by cases h) fnExactFormatPieceState_row_tie rfl ⟨rfl, rfl⟩ (by kernel_rfl) rfl
    (fun f fn hf hfn => by
      obtain rfl : f = 4 := Option.some.inj ((show Tryd.prog.funcNamed Rows.fnExactFormatPieceStateRow.func = some 4 by kernel_rfl).symm.trans hf) |>.symm
      obtain rfl : fn = Tryd.f4 := (Option.some.inj (Tryd.func4.symm.trans hfn)).symm
      exact ⟨by kernel_rfl, fun j t ht => by
        rw [Tryd.params4] at ht
        have h3 : t ∈ [31, 32] := by
          have := Array.mem_of_getElem? ht
          simpa using this
        simp only [List.mem_cons, List.not_mem_nil, or_false] at h3
        rcases h3 with rfl | rfl
        all_goals first | exact (show Tryd.prog.wantsStandIn 31 = false by kernel_rfl) | exact (show Tryd.prog.wantsStandIn 32 = false by kernel_rfl) ⟩)
    (by kernel_rfl)
#print axioms proved
end Go.Proofs.YtnaiohbeejhpkaaDoor.fnExactFormatPieceStateCard

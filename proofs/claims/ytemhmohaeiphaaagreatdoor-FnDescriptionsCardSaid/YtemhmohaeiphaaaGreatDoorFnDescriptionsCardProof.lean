/-
  The card of the law FnDescriptions: for every argument that its row allows, the law returns true and leaves its arguments as they were; the listed variables are tied by the given tie.
-/
import Derived.Test.YtemhmohaeiphaaaGreatDoorCB0
import Derived.Test.YtemhmohaeiphaaaGreatDoorCB2
import Derived.Test.YtemhmohaeiphaaaGreatDoorCB4
import Derived.Test.YtemhmohaeiphaaaGreatDoorRows
import Derived.Test.YtemhmohaeiphaaaGreatDoorCards
import Derived.Test.YtemhmohaeiphaaaGreatDoorTie
import Derived.ProofKit
import Derived.LaidMore
import Derived.Lay
import Derived.OpenShut
import Derived.Stop.Joined
import Derived.SevenTiedAt
import Derived.Lib.LaidTab
namespace Go.Proofs.YtemhmohaeiphaaaGreatDoor.fnDescriptionsCard
open Go.ChangeShapes Go.WideShapes Go.ChangeAt Go.RowKit Go.AM
set_option linter.unusedVariables false
set_option linter.unusedSimpArgs false
set_option maxRecDepth 100000

theorem own : ownKnob Tryz.prog.godebug = none := by kernel_rfl
theorem laid : laidOutB Tryz.prog = true := by kernel_rfl
theorem door_met (os : Os) (args : Array Value) : laidMetH Tryz.prog Rows.fnDescriptionsRow.laid ((World.laidAll Tryz.prog os Rows.fnDescriptionsRow.laid).forCall (fun _ _ => 0) ⟨#[], args, []⟩).memory := by
  rw [MakeChecks.laidMetH_plain _ _ _ (by kernel_rfl)]
  exact laidMet_laidAll _ (by kernel_rfl) (by kernel_rfl)

theorem var_at {W : World} {name : String} {g : Nat} {cs : Array Value} (hg : Tryz.prog.globalNamed name = some g) (hv : World.var? Tryz.prog W name = some cs) : ∃ t f, W.heap[g]? = some (.cells cs t f) := by
  unfold World.var? at hv
  rw [hg] at hv
  simp only [Option.bind_some] at hv
  split at hv
  · rename_i c t f hh
    cases hv
    exact ⟨t, f, hh⟩
  · cases hv
theorem base_of {W : World} (h : laidMetH Tryz.prog Rows.fnDescriptionsRow.laid W) (hsh : W.ShapedOpen Tryz.prog) : BaseOk (gho W) W := by
  rw [MakeChecks.laidMetH_plain _ _ _ (by kernel_rfl)] at h
  obtain ⟨ps, ⟨g0, t0, cs0, f0, p0, q0, hg0, ht0, hv0, hd0, ⟨g1, t1, cs1, f1, p1, q1, hg1, ht1, hv1, hd1, ⟨g2, t2, cs2, f2, p2, q2, hg2, ht2, hv2, hd2, ⟨g3, t3, cs3, f3, p3, q3, hg3, ht3, hv3, hd3, ⟨g4, t4, cs4, f4, p4, q4, hg4, ht4, hv4, hd4, ⟨g5, t5, cs5, f5, p5, q5, hg5, ht5, hv5, hd5, ⟨g6, t6, cs6, f6, p6, q6, hg6, ht6, hv6, hd6, _, _⟩, _⟩, _⟩, _⟩, _⟩, _⟩, _⟩, _⟩ := h
  have hga := hg2.symm.trans (by kernel_rfl : _ = some 0)
  obtain rfl := Option.some.inj hga
  have hta := ht2.symm.trans (by kernel_rfl : _ = some 183)
  obtain rfl := Option.some.inj hta
  have hda := hd2
  rw [show (Rows.laid_internal_strconv_uint64pow10 : DataW Unit) = Lib.tabData .u64 Lib.pow10Tab by rfl] at hda
  have hcs := Lib.cells_of_tab Tryz.underlying183 Tryz.underlying171 (by kernel_rfl) (by kernel_rfl) hda
  have hgb := hg4.symm.trans (by kernel_rfl : _ = some 5)
  obtain rfl := Option.some.inj hgb
  have htb := ht4.symm.trans (by kernel_rfl : _ = some 159)
  obtain rfl := Option.some.inj htb
  obtain ⟨u4, w4, e4⟩ := trod_iface Tryz.underlying159 hd4
  have hgc := hg5.symm.trans (by kernel_rfl : _ = some 4)
  obtain rfl := Option.some.inj hgc
  have htc := ht5.symm.trans (by kernel_rfl : _ = some 159)
  obtain rfl := Option.some.inj htc
  obtain ⟨u5, w5, e5⟩ := trod_iface Tryz.underlying159 hd5
  obtain ⟨ta, fa, ha⟩ := var_at hg2 hv2
  obtain ⟨tb, fb, hb⟩ := var_at hg4 hv4
  obtain ⟨tc, fc, hc⟩ := var_at hg5 hv5
  have hm0 : ((begin Tryz.prog (fun _ _ => 0) default).world.heap[1]?).bind Obj.row? = some (#[.int .i64 0], 3) := by kernel_rfl
  obtain ⟨cm, hcm, hsm, _⟩ := hsh.1 1 _ _ (by decide +kernel) hm0
  obtain ⟨m, hm⟩ := cell_of_shapedOpen_int hsh (by decide +kernel) hm0 rfl (by kernel_rfl) (by kernel_rfl) Tryz.underlying3
  have hm1 : cm[0]? = some (.int .i64 m) := by
    simp [World.cell?, hcm] at hm; exact hm
  intro b cs hbc
  simp only [baseRows, List.mem_cons, Prod.mk.injEq, List.not_mem_nil, or_false] at hbc
  rcases hbc with ⟨rfl, rfl⟩ | ⟨rfl, rfl⟩ | ⟨rfl, rfl⟩ | ⟨rfl, rfl⟩
  · have hx : cs2 = (Lib.pow10Tab.map fun z => Value.int .u64 z).toArray := by rw [← hcs]
    exact ⟨⟨(cs2, ta), hx⟩, fa, _, ha, base_mk ha (by rw [hx]; rfl) rfl⟩
  · exact ⟨⟨(cm, _), m, hm1⟩, _, _, hcm, base_mk hcm hm1 rfl⟩
  · have hx : cs5[0]? = some (.iface u5 w5) := by rw [← Array.getElem?_toList, e5]; rfl
    exact ⟨⟨(cs5, tc), u5, w5, hx⟩, fc, _, hc, base_mk hc hx rfl⟩
  · have hx : cs4[0]? = some (.iface u4 w4) := by rw [← Array.getElem?_toList, e4]; rfl
    exact ⟨⟨(cs4, tb), u4, w4, hx⟩, fb, _, hb, base_mk hb hx rfl⟩

set_option maxRecDepth 100000 in
theorem lifted (os : Os) (started : os.Started) (H : Type) (enc : TypeId × Value → H) :
    ReturnsInHanded {} Tryz.checked os 5 .any (fun w args => (Rows.fnDescriptionsSpec.pre enc Tryz.prog Tryz.f5 [] false w args ∧ laidMetH Tryz.prog Rows.fnDescriptionsRow.laid w) ∧ sizedMet enc Tryz.prog Tryz.f5 (OpenSpec.ofChange Rows.fnDescriptionsSpec) false w args)
      (Rows.fnDescriptionsSpec.post enc Tryz.prog Tryz.f5 false true false false) := by
  refine wrapS (C := Tryz.checked) (X := fun w _ => laidMetH Tryz.prog Rows.fnDescriptionsRow.laid w) (fun _ _ _ hh h => h.of_heap hh) own started (by kernel_rfl) Tryz.func5
    (ChangeSpec.witness_shaped (enc := enc) (C := Tryz.checked) (os := os) (X := fun w _ => laidMetH Tryz.prog Rows.fnDescriptionsRow.laid w) false (World.laidAll Tryz.prog os Rows.fnDescriptionsRow.laid) #[.slice none 0 0] 8 (World.laidAll_os _ _ _) (World.shaped_of_ZipB (by kernel_rfl) (by kernel_rfl)) (by kernel_rfl) (by kernel_rfl) (by kernel_rfl) (door_met os _)) ?_
  intro W base args ds gs before hval0 hW hcnd hL hsh
  have hval : ∀ (j : Nat) t v, Tryz.f5.params[j]? = some t → args[j]? = some v → Value.okWide Tryz.prog W .any base t v := hval0
  have hW1 := hW
  obtain ⟨p, q, hA0, hV, hpq, hfz, hnd⟩ := hW
  have hA : DataW.TrodAll enc Tryz.prog W 0 (fun _ => true) true Tryz.f5.params.toList args.toList ds p := hA0
  rw [Tryz.params5] at hA hval
  obtain ⟨v0, vs0, d0, ds0, p0, q0, ha0, hd0, hp0, h0, r0⟩ := trodAll_cons hA
  obtain ⟨e1, e2, e3⟩ := trodAll_nil r0
  subst e1 e2
  obtain rfl : args = #[v0] := by apply Array.toList_inj.1; rw [ha0]
  subst hd0
  obtain ⟨a0, w0, x0⟩ := Opens.one Draws.openBytes (el := Draws.bsl) (fun _ => rfl) ag22 (hval 0 22 v0 rfl rfl) h0
  exact law_calls (ts := [22]) laid Tryz.params5 (by kernel_rfl) rfl rfl Tryz.underlying4 (fun hg => by subst hg; exact ⟨rfl, rfl, rfl⟩) hW1 (Dx.lawDescr a0 w0.1) ⟨x0, trivial⟩ (base_of hL hsh)

theorem over : Rows.FnDescriptionsSaid :=
  OpenClaim.holds_of_wide 5 Tryz.f5 rfl rfl rfl rfl rfl rfl rfl ⟨rfl, rfl, rfl, rfl, rfl⟩ rfl rfl rfl rfl rfl (by kernel_rfl) Tryz.func5 (by kernel_rfl)
    (of_decide_eq_true (by kernel_rfl)) (by unfold Func.isWrapper; first | (rw [if_pos (by decide +kernel)]; kernel_rfl) | (rw [if_neg (by decide +kernel)]; exact ⟨rfl, rfl⟩))
    (fun os started H enc _ => lifted os started H enc)

theorem proved : Rows.FnDescriptionsCardSaid :=
  Claim7.holds_tied_plain_at .later [] Rows.fnDescriptionsCard.laidKinds true Rows.fnDescriptionsCard.stood.harness Rows.fnDescriptionsCard.stood.looks
    over (fun _ h => by cases h) (by kernel_rfl) (fun _ h => by cases h) fnDescriptions_row_tie rfl ⟨rfl, rfl⟩ (by kernel_rfl) rfl
    (fun f fn hf hfn => by
      obtain rfl : f = 5 := Option.some.inj ((show Tryz.prog.funcNamed Rows.fnDescriptionsRow.func = some 5 by kernel_rfl).symm.trans hf) |>.symm
      obtain rfl : fn = Tryz.f5 := (Option.some.inj (Tryz.func5.symm.trans hfn)).symm
      exact ⟨by kernel_rfl, fun j t ht => by
        rw [Tryz.params5] at ht
        have h3 : t ∈ [22] := by
          have := Array.mem_of_getElem? ht
          simpa using this
        simp only [List.mem_cons, List.not_mem_nil, or_false] at h3
        subst h3; exact (show Tryz.prog.wantsStandIn 22 = false by kernel_rfl)⟩)
    (by kernel_rfl)
#print axioms proved
end Go.Proofs.YtemhmohaeiphaaaGreatDoor.fnDescriptionsCard

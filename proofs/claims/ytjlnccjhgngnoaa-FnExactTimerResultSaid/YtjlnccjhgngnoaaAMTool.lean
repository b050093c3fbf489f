/-
  THE RULES BY WHICH A WALK IS REWRITTEN; arguments by content; a row out of a contract; plain laws of lists.
-/
import Derived.Test.YtjlnccjhgngnoaaAMSound
import Derived.ProofKit
import Derived.OpenShut
import Derived.Carry
set_option linter.unusedVariables false
set_option linter.unusedSimpArgs false
namespace Go.AM
theorem amPre : type_of% (And.intro (And.intro (And.intro (And.intro (And.intro (@AWP_skip) (@AWP_seq)) (And.intro (@AWP_block) (@AWP_exit))) (And.intro (And.intro (@AWP_ret)
  (@AWP_seqR)) (And.intro (@AWP_drawR) (@AWP_loop)))) (And.intro (And.intro (And.intro (@AWP_cond) (@thenQ_normal)) (And.intro (@thenQ_exit) (@thenQ_ret))) (And.intro (And.intro
  (@blockQ_exit_same) (@blockQ_exit_ne)) (And.intro (@blockQ_normal) (@blockQ_ret))))) (And.intro (And.intro (And.intro (And.intro (@seqOps_nil) (@seqOps_none)) (And.intro
  (@seqOps_some) (@flowOps_nil))) (And.intro (And.intro (@flowOps_none) (@flowOps_some)) (And.intro (@Go.AM.aop.eq_def) (@Go.AM.fop.eq_def)))) (And.intro (And.intro (And.intro
  (@Go.AM.callOp.eq_def) (@Go.AM.intBin2.eq_def)) (And.intro (@Go.AM.intBin.eq_def) (@Go.AM.strBin.eq_def))) (And.intro (And.intro (@Go.AM.boolBin.eq_def) (@Go.AM.aggBin.eq_def))
  (And.intro (@Go.AM.drawOps.eq_def) (And.intro (@retP_ret) (@retP_normal))))))) := And.intro (And.intro (And.intro (And.intro (And.intro (@AWP_skip) (@AWP_seq)) (And.intro
  (@AWP_block) (@AWP_exit))) (And.intro (And.intro (@AWP_ret) (@AWP_seqR)) (And.intro (@AWP_drawR) (@AWP_loop)))) (And.intro (And.intro (And.intro (@AWP_cond) (@thenQ_normal))
  (And.intro (@thenQ_exit) (@thenQ_ret))) (And.intro (And.intro (@blockQ_exit_same) (@blockQ_exit_ne)) (And.intro (@blockQ_normal) (@blockQ_ret))))) (And.intro (And.intro (And.intro
  (And.intro (@seqOps_nil) (@seqOps_none)) (And.intro (@seqOps_some) (@flowOps_nil))) (And.intro (And.intro (@flowOps_none) (@flowOps_some)) (And.intro (@Go.AM.aop.eq_def)
  (@Go.AM.fop.eq_def)))) (And.intro (And.intro (And.intro (@Go.AM.callOp.eq_def) (@Go.AM.intBin2.eq_def)) (And.intro (@Go.AM.intBin.eq_def) (@Go.AM.strBin.eq_def))) (And.intro
  (And.intro (@Go.AM.boolBin.eq_def) (@Go.AM.aggBin.eq_def)) (And.intro (@Go.AM.drawOps.eq_def) (And.intro (@retP_ret) (@retP_normal))))))
theorem amPost : type_of% (And.intro (And.intro (And.intro (And.intro (And.intro (And.intro (And.intro (@condQ_bool) (And.intro (@ifP_true) (@ifP_false))) (And.intro (@drawP_go)
  (And.intro (@guardQ_t) (@guardQ_f)))) (And.intro (And.intro (@guardQ_un) (And.intro (@dstOf_zero) (@dstOf_succ))) (And.intro (And.intro (@frO_some) (@Go.AM.headOps.eq_1))
  (And.intro (@Go.AM.headOps.eq_2) (@Go.AM.tailOps.eq_1))))) (And.intro (And.intro (And.intro (@Go.AM.tailOps.eq_2) (And.intro (@Go.AM.isTail.eq_def) (@Go.AM.killNew.eq_1)))
  (And.intro (@Go.AM.killNew.eq_2) (And.intro (@Go.AM.makesB.eq_def) (@Go.AM.St.addN.eq_def)))) (And.intro (And.intro (@binP_int) (And.intro (@binP_str) (@binP_bool))) (And.intro
  (And.intro (@binP_agg) (@eqV_int)) (And.intro (@eqV_bool) (@eqV_str)))))) (And.intro (And.intro (And.intro (And.intro (@and2_some) (And.intro (@eqCs_nil) (@eqCs_cons))) (And.intro
  (@unP_neg) (And.intro (@unP_not) (@pickP_bool)))) (And.intro (And.intro (@loadP_loc) (And.intro (@loadP_ep) (@loadCs_agg))) (And.intro (And.intro (@loadCs_one) (@fieldAP_loc))
  (And.intro (@fieldAP_ep) (@indexAP_sl))))) (And.intro (And.intro (And.intro (@indexAP_app) (And.intro (@indexAP_own) (@lenP_sl))) (And.intro (And.intro (@lenP_app) (@lenP_own))
  (And.intro (@lenP_nil) (@lenP_str)))) (And.intro (And.intro (@callVP_same) (And.intro (@callVP_lent) (@calleeP_fn))) (And.intro (And.intro (@sliceP_str) (@sliceP_sl)) (And.intro
  (@sliceP_app) (@Go.AM.AV.lenV.eq_def))))))) (And.intro (And.intro (And.intro (And.intro (And.intro (@fieldP_agg) (And.intro (@strIndexP_str) (@nilP_loc))) (And.intro (@nilP_ep)
  (And.intro (@intP_int) (@tupP_tup)))) (And.intro (And.intro (@repC_one) (And.intro (@storeP_loc) (@Go.AM.grpOf.eq_def))) (And.intro (And.intro (@Go.AM.statsO.eq_1)
  (@Go.AM.statsO.eq_2)) (And.intro (@srcP_own) (@srcP_sl))))) (And.intro (And.intro (And.intro (@srcP_app) (And.intro (@srcP_nil) (@appP_nil))) (And.intro (@appP_app) (And.intro
  (@optP_some) (@valP_go)))) (And.intro (And.intro (@ev_tmp) (And.intro (@ev_const) (@ev_func))) (And.intro (And.intro (@put_fr) (@put_mem)) (And.intro (@put_tok) (@put_none))))))
  (And.intro (And.intro (And.intro (And.intro (@addB_fr) (And.intro (@addB_mem) (@addB_tok))) (And.intro (@setMem_fr) (And.intro (@setMem_mem) (@setMem_tok)))) (And.intro (And.intro
  (@setTok_fr) (And.intro (@setTok_mem) (@setTok_tok))) (And.intro (And.intro (@kill_fr) (@kill_mem)) (And.intro (@kill_tok) (@kill1_v))))) (And.intro (And.intro (And.intro
  (@kill1_sl) (And.intro (@kill1_ep) (@kill1_any))) (And.intro (And.intro (@kill1_loc) (@kill1_own)) (And.intro (@kill1_app) (@kill1_agg)))) (And.intro (And.intro (@kill1_tup)
  (And.intro (@kill1_fn) (@killA_v))) (And.intro (And.intro (@killA_sl) (@killA_loc)) (And.intro (@killA_own) (@killA_app)))))))) (And.intro (And.intro (And.intro (And.intro
  (And.intro (And.intro (@killA_ep) (And.intro (@cells_agg) (@cells_v))) (And.intro (@cells_sl) (And.intro (@cells_app) (@cells_own)))) (And.intro (And.intro (@Go.AM.setCells.eq_1)
  (And.intro (@Go.AM.setCells.eq_2) (@Go.AM.AV.viewAll.eq_1))) (And.intro (And.intro (@Go.AM.AV.viewAll.eq_2) (@Go.AM.AV.views.eq_1)) (And.intro (@Go.AM.AV.views.eq_2)
  (@Go.AM.AV.view.eq_def))))) (And.intro (And.intro (And.intro (@Go.AM.AV.view1.eq_def) (And.intro (@Go.AM.AV.stat1.eq_def) (@Go.AM.AV.stats.eq_1))) (And.intro
  (@Go.AM.AV.stats.eq_2) (And.intro (@kc_agg) (@kc_v)))) (And.intro (And.intro (@kc_sl) (And.intro (@oc_sl) (@kc_app))) (And.intro (And.intro (@oc_app) (@kc_own)) (And.intro
  (@oc_own) (@kc_loc)))))) (And.intro (And.intro (And.intro (And.intro (@oc_loc) (And.intro (@kc_ep) (@oc_ep))) (And.intro (@kc_fn) (And.intro (@oc_fn) (@oc_int)))) (And.intro
  (And.intro (@oc_bool) (And.intro (@oc_str) (@oc_slice))) (And.intro (And.intro (@oc_ptr) (@Go.Value.oneCell'.eq_def)) (And.intro (@Go.AM.buildCs.eq_1) (@Go.AM.buildCs.eq_2)))))
  (And.intro (And.intro (And.intro (@Go.AM.AV.flat.eq_def) (And.intro (@Go.AM.AV.flat1.eq_def) (@resL_nil))) (And.intro (And.intro (@resL_tmp) (@resL_cell)) (And.intro (@retV_some)
  (@tupOf_one)))) (And.intro (And.intro (@tupOf_two) (And.intro (@tupOf_three) (@init_fr))) (And.intro (And.intro (@init_mem) (@init_tok)) (And.intro (@List.getD_nil.{0})
  (@Go.AM.AV.isStat.eq_def))))))) (And.intro (And.intro (And.intro (And.intro (And.intro (@Go.AM.AV.isStat1.eq_def) (And.intro (@Go.AM.AV.isStat2.eq_def) (@vc_ok))) (And.intro
  (@vc_true) (And.intro (@wrap64_id) (@lt_true)))) (And.intro (And.intro (@lt_false) (And.intro (@le_true) (@le_false))) (And.intro (And.intro (@eq_true) (@eq_false)) (And.intro
  (@ne_true) (@ne_false))))) (And.intro (And.intro (And.intro (@getD_map) (And.intro (@Option.isSome_some.{0}) (@List.headD_cons.{0}))) (And.intro (And.intro (@List.map_cons.{0,0})
  (@List.map_nil.{0,0})) (And.intro (@List.length_map.{0,0}) (@List.length_cons.{0})))) (And.intro (And.intro (@List.length_nil.{0}) (And.intro (@List.drop_succ_cons.{0})
  (@List.drop_zero.{0}))) (And.intro (And.intro (@List.take_succ_cons.{0}) (@List.take_zero.{0})) (And.intro (@List.cons_append.{0}) (@List.nil_append.{0})))))) (And.intro
  (And.intro (And.intro (And.intro (@List.append_nil.{0}) (And.intro (@List.getD_cons_zero.{0}) (@List.getD_cons_succ.{0}))) (And.intro (@List.set_cons_zero.{0}) (And.intro
  (@List.set_cons_succ.{0}) (@Int.toNat_natCast)))) (And.intro (And.intro (@Nat.zero_add) (And.intro (@Nat.add_zero) (@Option.getD_some.{0}))) (And.intro (And.intro
  (@Option.getD_none.{0}) (@Bool.not_true)) (And.intro (@Bool.not_false) (@Bool.or_false))))) (And.intro (And.intro (And.intro (@Option.map_some.{0,0}) (And.intro
  (@Option.map_none.{0,0}) (@and_self))) (And.intro (And.intro (@and_true) (@true_and)) (And.intro (@false_and) (@and_false)))) (And.intro (And.intro (@Option.bind_some.{0,0})
  (And.intro (@List.all_cons.{0}) (@List.all_nil.{0}))) (And.intro (And.intro (@List.length_replicate.{0}) (@List.length_set.{0})) (And.intro (@List.length_append.{0})
  (@Bool.and_true))))))))) := And.intro (And.intro (And.intro (And.intro (And.intro (And.intro (And.intro (@condQ_bool) (And.intro (@ifP_true) (@ifP_false))) (And.intro (@drawP_go)
  (And.intro (@guardQ_t) (@guardQ_f)))) (And.intro (And.intro (@guardQ_un) (And.intro (@dstOf_zero) (@dstOf_succ))) (And.intro (And.intro (@frO_some) (@Go.AM.headOps.eq_1))
  (And.intro (@Go.AM.headOps.eq_2) (@Go.AM.tailOps.eq_1))))) (And.intro (And.intro (And.intro (@Go.AM.tailOps.eq_2) (And.intro (@Go.AM.isTail.eq_def) (@Go.AM.killNew.eq_1)))
  (And.intro (@Go.AM.killNew.eq_2) (And.intro (@Go.AM.makesB.eq_def) (@Go.AM.St.addN.eq_def)))) (And.intro (And.intro (@binP_int) (And.intro (@binP_str) (@binP_bool))) (And.intro
  (And.intro (@binP_agg) (@eqV_int)) (And.intro (@eqV_bool) (@eqV_str)))))) (And.intro (And.intro (And.intro (And.intro (@and2_some) (And.intro (@eqCs_nil) (@eqCs_cons))) (And.intro
  (@unP_neg) (And.intro (@unP_not) (@pickP_bool)))) (And.intro (And.intro (@loadP_loc) (And.intro (@loadP_ep) (@loadCs_agg))) (And.intro (And.intro (@loadCs_one) (@fieldAP_loc))
  (And.intro (@fieldAP_ep) (@indexAP_sl))))) (And.intro (And.intro (And.intro (@indexAP_app) (And.intro (@indexAP_own) (@lenP_sl))) (And.intro (And.intro (@lenP_app) (@lenP_own))
  (And.intro (@lenP_nil) (@lenP_str)))) (And.intro (And.intro (@callVP_same) (And.intro (@callVP_lent) (@calleeP_fn))) (And.intro (And.intro (@sliceP_str) (@sliceP_sl)) (And.intro
  (@sliceP_app) (@Go.AM.AV.lenV.eq_def))))))) (And.intro (And.intro (And.intro (And.intro (And.intro (@fieldP_agg) (And.intro (@strIndexP_str) (@nilP_loc))) (And.intro (@nilP_ep)
  (And.intro (@intP_int) (@tupP_tup)))) (And.intro (And.intro (@repC_one) (And.intro (@storeP_loc) (@Go.AM.grpOf.eq_def))) (And.intro (And.intro (@Go.AM.statsO.eq_1)
  (@Go.AM.statsO.eq_2)) (And.intro (@srcP_own) (@srcP_sl))))) (And.intro (And.intro (And.intro (@srcP_app) (And.intro (@srcP_nil) (@appP_nil))) (And.intro (@appP_app) (And.intro
  (@optP_some) (@valP_go)))) (And.intro (And.intro (@ev_tmp) (And.intro (@ev_const) (@ev_func))) (And.intro (And.intro (@put_fr) (@put_mem)) (And.intro (@put_tok) (@put_none))))))
  (And.intro (And.intro (And.intro (And.intro (@addB_fr) (And.intro (@addB_mem) (@addB_tok))) (And.intro (@setMem_fr) (And.intro (@setMem_mem) (@setMem_tok)))) (And.intro (And.intro
  (@setTok_fr) (And.intro (@setTok_mem) (@setTok_tok))) (And.intro (And.intro (@kill_fr) (@kill_mem)) (And.intro (@kill_tok) (@kill1_v))))) (And.intro (And.intro (And.intro
  (@kill1_sl) (And.intro (@kill1_ep) (@kill1_any))) (And.intro (And.intro (@kill1_loc) (@kill1_own)) (And.intro (@kill1_app) (@kill1_agg)))) (And.intro (And.intro (@kill1_tup)
  (And.intro (@kill1_fn) (@killA_v))) (And.intro (And.intro (@killA_sl) (@killA_loc)) (And.intro (@killA_own) (@killA_app)))))))) (And.intro (And.intro (And.intro (And.intro
  (And.intro (And.intro (@killA_ep) (And.intro (@cells_agg) (@cells_v))) (And.intro (@cells_sl) (And.intro (@cells_app) (@cells_own)))) (And.intro (And.intro (@Go.AM.setCells.eq_1)
  (And.intro (@Go.AM.setCells.eq_2) (@Go.AM.AV.viewAll.eq_1))) (And.intro (And.intro (@Go.AM.AV.viewAll.eq_2) (@Go.AM.AV.views.eq_1)) (And.intro (@Go.AM.AV.views.eq_2)
  (@Go.AM.AV.view.eq_def))))) (And.intro (And.intro (And.intro (@Go.AM.AV.view1.eq_def) (And.intro (@Go.AM.AV.stat1.eq_def) (@Go.AM.AV.stats.eq_1))) (And.intro
  (@Go.AM.AV.stats.eq_2) (And.intro (@kc_agg) (@kc_v)))) (And.intro (And.intro (@kc_sl) (And.intro (@oc_sl) (@kc_app))) (And.intro (And.intro (@oc_app) (@kc_own)) (And.intro
  (@oc_own) (@kc_loc)))))) (And.intro (And.intro (And.intro (And.intro (@oc_loc) (And.intro (@kc_ep) (@oc_ep))) (And.intro (@kc_fn) (And.intro (@oc_fn) (@oc_int)))) (And.intro
  (And.intro (@oc_bool) (And.intro (@oc_str) (@oc_slice))) (And.intro (And.intro (@oc_ptr) (@Go.Value.oneCell'.eq_def)) (And.intro (@Go.AM.buildCs.eq_1) (@Go.AM.buildCs.eq_2)))))
  (And.intro (And.intro (And.intro (@Go.AM.AV.flat.eq_def) (And.intro (@Go.AM.AV.flat1.eq_def) (@resL_nil))) (And.intro (And.intro (@resL_tmp) (@resL_cell)) (And.intro (@retV_some)
  (@tupOf_one)))) (And.intro (And.intro (@tupOf_two) (And.intro (@tupOf_three) (@init_fr))) (And.intro (And.intro (@init_mem) (@init_tok)) (And.intro (@List.getD_nil.{0})
  (@Go.AM.AV.isStat.eq_def))))))) (And.intro (And.intro (And.intro (And.intro (And.intro (@Go.AM.AV.isStat1.eq_def) (And.intro (@Go.AM.AV.isStat2.eq_def) (@vc_ok))) (And.intro
  (@vc_true) (And.intro (@wrap64_id) (@lt_true)))) (And.intro (And.intro (@lt_false) (And.intro (@le_true) (@le_false))) (And.intro (And.intro (@eq_true) (@eq_false)) (And.intro
  (@ne_true) (@ne_false))))) (And.intro (And.intro (And.intro (@getD_map) (And.intro (@Option.isSome_some.{0}) (@List.headD_cons.{0}))) (And.intro (And.intro (@List.map_cons.{0,0})
  (@List.map_nil.{0,0})) (And.intro (@List.length_map.{0,0}) (@List.length_cons.{0})))) (And.intro (And.intro (@List.length_nil.{0}) (And.intro (@List.drop_succ_cons.{0})
  (@List.drop_zero.{0}))) (And.intro (And.intro (@List.take_succ_cons.{0}) (@List.take_zero.{0})) (And.intro (@List.cons_append.{0}) (@List.nil_append.{0})))))) (And.intro
  (And.intro (And.intro (And.intro (@List.append_nil.{0}) (And.intro (@List.getD_cons_zero.{0}) (@List.getD_cons_succ.{0}))) (And.intro (@List.set_cons_zero.{0}) (And.intro
  (@List.set_cons_succ.{0}) (@Int.toNat_natCast)))) (And.intro (And.intro (@Nat.zero_add) (And.intro (@Nat.add_zero) (@Option.getD_some.{0}))) (And.intro (And.intro
  (@Option.getD_none.{0}) (@Bool.not_true)) (And.intro (@Bool.not_false) (@Bool.or_false))))) (And.intro (And.intro (And.intro (@Option.map_some.{0,0}) (And.intro
  (@Option.map_none.{0,0}) (@and_self))) (And.intro (And.intro (@and_true) (@true_and)) (And.intro (@false_and) (@and_false)))) (And.intro (And.intro (@Option.bind_some.{0,0})
  (And.intro (@List.all_cons.{0}) (@List.all_nil.{0}))) (And.intro (And.intro (@List.length_replicate.{0}) (@List.length_set.{0})) (And.intro (@List.length_append.{0})
  (@Bool.and_true))))))))
end Go.AM
namespace Go.AM
open Go.RowKit (Below)
open Go.ChangeShapes

/-- all cells of a world, as the ghost of what nobody turns -/
def gho (w : World) : Gh := fun b o => match w.cell? ⟨b, o, none⟩ with | some x => if x.oneCell' then some x else none | none => none
theorem gho_cell {w : World} {b o : Nat} {x : Value} (h : w.cell? ⟨b, o, none⟩ = some x) (k : x.oneCell' = true) : gho w b o = some x := by unfold gho; rw [h]; simp [k]
theorem held_gho (w : World) : Held (gho w) w := ⟨fun b o x h => by
  unfold gho at h
  split at h
  · rename_i y hy
    split at h
    · rename_i hk; cases h; exact ⟨hy, hk⟩
    · cases h
  · cases h⟩

def Opens (P : Program) (t : TypeId) (α : Type) (cells : α → List AV) (wf : α → Prop) : Prop :=
  ∀ (H : Type) (enc : TypeId × Value → H) (w : World) (sp : Nat → Bool) (held : Bool) (fuel : Nat) (cs : List Value) (x : DataW H × List MemPlace), DataW.trod enc P w 0 sp held fuel t cs = some x →
    ∃ a : α, wf a ∧ (cells a).length = cs.length ∧ ∀ j (hj : j < (cells a).length) (hk : j < cs.length), RepS (gho w) ((cells a)[j]) (cs[j]) ∧ (cs[j]).oneCell' = true

/-- a number that an int64 holds -/
def intOk (n : Int) : Prop := -9223372036854775808 ≤ n ∧ n ≤ 9223372036854775807

section
variable {P : Program} {t e : TypeId} {α β γ : Type} {cells : α → List AV} {wf : α → Prop}

theorem opens_int (ht : P.underlying t = some (.int .i64)) : Opens P t Int (fun n => [.i64 n]) intOk := by
  intro H enc w sp held fuel cs x h
  obtain ⟨n, rfl, _, hw⟩ := DataW.trod_int ht h
  refine ⟨n, ?_, rfl, fun j hj hk => ?_⟩
  · simp only [Lit.wf, Bool.and_eq_true, decide_eq_true_eq] at hw
    have e1 : IntKind.i64.min = -9223372036854775808 := by decide
    have e2 : IntKind.i64.max = 9223372036854775807 := by decide
    rw [e1, e2] at hw
    exact hw
  · have : j = 0 := by simp at hj; omega
    subst this
    exact ⟨.v _, rfl⟩
theorem opens_bool (ht : P.underlying t = some .bool) : Opens P t Bool (fun b => [.bl b]) (fun _ => True) := by
  intro H enc w sp held fuel cs x h
  obtain ⟨b, rfl, _⟩ := DataW.trod_bool ht h
  refine ⟨b, trivial, rfl, fun j hj hk => ?_⟩
  have : j = 0 := by simp at hj; omega
  subst this
  exact ⟨.v _, rfl⟩
theorem opens_string (ht : P.underlying t = some .string) : Opens P t (List UInt8) (fun l => [.st l]) (fun l => l.length ≤ 9223372036854775807) := by
  intro H enc w sp held fuel cs x h
  obtain ⟨s, rfl, _, hs⟩ := DataW.trod_string ht h
  have e : maxLen = 9223372036854775807 := by decide
  have hs' : s.data.toList.length ≤ 9223372036854775807 := by rw [← e]; exact hs
  refine ⟨s.data.toList, hs', rfl, fun j hj hk => ?_⟩
  have : j = 0 := by simp at hj; omega
  subst this
  exact ⟨.v _, rfl⟩

theorem cells?_get {w : World} {a : Addr} {n : Nat} {cs : List Value} (h : w.cells? 0 a n = some cs) : cs.length = n ∧ ∀ j (hj : j < cs.length), w.cell? (a.add j) = some (cs[j]) := by
  unfold World.cells? at h
  rw [if_pos (Nat.zero_le _)] at h
  have hl := mapM_some_length h
  rw [List.length_range] at hl
  refine ⟨hl, fun j hj => ?_⟩
  have := mapM_some_get h j j (by rw [List.getElem?_eq_getElem (by rw [List.length_range]; omega), List.getElem_range])
  rw [this, List.getElem?_eq_getElem hj]

theorem spot_none {w : World} {a : Addr} {x : Value} (h : w.cell? a = some x) : a.spot = none := by
  unfold World.cell? at h
  split at h
  · split at h
    · cases h
    · rename_i q; simpa using q
  · cases h

theorem opens_slice (ht : P.underlying t = some (.slice e)) {z : Nat} (hz : P.cellsOf e = z) (hz0 : 0 < z) (el : α → AV) (hel : ∀ a, (el a).cells = cells a) (h : Opens P e α cells wf) :
    Opens P t (List α) (fun l => [.sl z (l.map el)]) (fun l => l.length ≤ 9223372036854775807 ∧ ∀ b ∈ l, wf b) := by
  intro H enc w sp held fuel cs x hx
  rcases DataW.trod_slice ht hx with ⟨rfl, _⟩ | ⟨a, len, cap, elems, rest, n, _, rfl, _, _, hl, hm, hlen, hel', _⟩
  · refine ⟨[], ⟨by simp, fun b hb => by cases hb⟩, rfl, fun j hj hk => ?_⟩
    have : j = 0 := by simp at hj; omega
    subst this
    exact ⟨.nil z, rfl⟩
  · have each : ∀ i, i < len → ∃ (b : α) (c1 : List Value), wf b ∧ w.cells? 0 (a.add (i * z)) z = some c1 ∧ (cells b).length = c1.length ∧ ∀ j (hj : j < (cells b).length) (hk : j < c1.length), RepS (gho w) ((cells b)[j]) (c1[j]) ∧ (c1[j]).oneCell' = true := by
      intro i hi
      have := hel' i hi
      rw [List.getElem?_eq_getElem (by omega), hz, Option.bind_eq_some_iff] at this
      obtain ⟨c1, h1, h2⟩ := this
      obtain ⟨b, h3, h4, h5⟩ := h H enc w sp held n c1 _ h2
      exact ⟨b, c1, h3, h1, h4, h5⟩
    have pick : ∀ m, m ≤ len → ∃ (l : List α) (f : Nat → List Value), l.length = m ∧ ∀ i (hi : i < l.length), wf (l[i]) ∧ w.cells? 0 (a.add (i * z)) z = some (f i) ∧ (cells (l[i])).length = (f i).length ∧ ∀ j (hj : j < (cells (l[i])).length) (hk : j < (f i).length), RepS (gho w) ((cells (l[i]))[j]) ((f i)[j]) ∧ ((f i)[j]).oneCell' = true := by
      intro m
      induction m with
      | zero => exact fun _ => ⟨[], fun _ => [], rfl, fun i hi => by cases hi⟩
      | succ m ih =>
        intro hm'
        obtain ⟨l, f, h1, h2⟩ := ih (by omega)
        obtain ⟨b, c1, h3⟩ := each m (by omega)
        refine ⟨l ++ [b], fun i => if i = m then c1 else f i, by simp [h1], fun i hi => ?_⟩
        by_cases hil : i = m
        · subst hil
          have : (l ++ [b])[i] = b := by rw [List.getElem_append_right (by omega)]; simp [h1]
          simp only [this, if_true]
          exact h3
        · have hi' : i < l.length := by simp at hi; omega
          have : (l ++ [b])[i] = l[i] := List.getElem_append_left hi'
          simp only [this, hil, if_false]
          exact h2 i hi'
    obtain ⟨l, f, hll, hf⟩ := pick len (Nat.le_refl _)
    refine ⟨l, ⟨by have : maxLen = 9223372036854775807 := rfl; omega, fun b hb => ?_⟩, rfl, fun j hj hk => ?_⟩
    · obtain ⟨i, hi, rfl⟩ := List.getElem_of_mem hb
      exact (hf i hi).1
    · have : j = 0 := by simp at hj; omega
      subst this
      refine ⟨?_, rfl⟩
      show RepS (gho w) (.sl z (l.map el)) (.slice (some a) len cap)
      cases hlen0 : len with
      | zero =>
        have : l = [] := List.eq_nil_of_length_eq_zero (by omega)
        rw [this]
        exact .nila z a cap
      | succ len' =>
        have hcl : ∀ i (hi : i < l.length), (f i).length = z := fun i hi => (cells?_get (hf i hi).2.1).1
        have hsp : a.spot = none := by
          have h0 := hf 0 (by omega)
          have h1 := cells?_get h0.2.1
          have := spot_none (h1.2 0 (by rw [hcl 0 (by omega)]; exact hz0))
          simpa [Addr.add] using this
        obtain ⟨b, off, spot⟩ := a
        simp only at hsp
        subst hsp
        have e0 : len' + 1 = (l.map el).length := by simp; omega
        rw [e0]
        refine .sl z (l.map el) b off cap (fun i j => (f i).getD j undef) (fun i hi => ?_) (by simp; omega) (fun i hi j hj => ?_) (fun i hi j hj => ?_)
        · simp at hi ⊢
          rw [hel, (hf i hi).2.2.1]; exact hcl i hi
        · simp at hi
          have hjl : j < (f i).length := by rw [hcl i hi]; exact hj
          have h1 := (cells?_get (hf i hi).2.1).2 j hjl
          rw [addr_add, addr_add] at h1
          have : (f i).getD j undef = (f i)[j] := by simp [List.getD, hjl]
          rw [this]
          exact gho_cell h1 ((hf i hi).2.2.2 j (by rw [(hf i hi).2.2.1]; exact hjl) hjl).2
        · simp at hi
          have hje : j < (cells (l[i])).length := by simpa [hel] using hj
          have hjl : j < (f i).length := by rw [← (hf i hi).2.2.1]; exact hje
          have : (f i).getD j undef = (f i)[j] := by simp [List.getD, hjl]
          rw [this]
          have q := ((hf i hi).2.2.2 j hje hjl).1
          simpa [hel] using q

def OpensFs (P : Program) (L : Nat) (fs : List Field) (o : Nat) (α : Type) (cells : α → List AV) (wf : α → Prop) : Prop :=
  ∀ (H : Type) (enc : TypeId × Value → H) (w : World) (sp : Nat → Bool) (held : Bool) (fuel : Nat) (cs : List Value), cs.length = L → (∀ (i : Nat) (f : Field), fs[i]? = some f → ∃ x, DataW.trod enc P w 0 sp held fuel f.type ((cs.drop f.offset).take (P.cellsOf f.type)) = some x) →
    ∃ a : α, wf a ∧ o + (cells a).length = cs.length ∧ ∀ j (hj : j < (cells a).length) (hk : o + j < cs.length), RepS (gho w) ((cells a)[j]) (cs[o + j]) ∧ (cs[o + j]).oneCell' = true

theorem opensFs_nil {L : Nat} : OpensFs P L [] L Unit (fun _ => []) (fun _ => True) := by
  intro H enc w sp held fuel cs hl _
  exact ⟨(), trivial, by simp [hl], fun j hj => by cases hj⟩

theorem opensFs_cons {L o : Nat} {f : Field} {r : List Field} {cg : γ → List AV} {wg : γ → Prop} (t : TypeId) (n : Nat) (ht : f.type = t) (hn : P.cellsOf t = n) (ho : f.offset = o) (hL : o + n ≤ L) (hf : Opens P t α cells wf) (hr : OpensFs P L r (o + n) γ cg wg) :
    OpensFs P L (f :: r) o (α × γ) (fun p => cells p.1 ++ cg p.2) (fun p => wf p.1 ∧ wg p.2) := by
  subst ht
  intro H enc w sp held fuel cs hl hx
  obtain ⟨x, hx0⟩ := hx 0 f (by simp)
  obtain ⟨a, h1, h2, h3⟩ := hf H enc w sp held fuel _ x hx0
  obtain ⟨b, k1, k2, k3⟩ := hr H enc w sp held fuel cs hl fun i g hg => hx (i + 1) g (by simpa using hg)
  have e : (cells a).length = n := by rw [h2, hn, ho]; simp; omega
  refine ⟨(a, b), ⟨h1, k1⟩, by simp; omega, fun j hj hk => ?_⟩
  by_cases hjn : j < (cells a).length
  · have hc : j < ((cs.drop f.offset).take (P.cellsOf f.type)).length := by rw [← h2]; exact hjn
    have := h3 j hjn hc
    have e1 : ((cs.drop f.offset).take (P.cellsOf f.type))[j] = cs[o + j] := by simp [ho]
    rw [e1] at this
    rw [List.getElem_append_left hjn]
    exact this
  · have e3 : o + j = o + n + (j - n) := by omega
    have hj2 : j - n < (cg b).length := by simp at hj; omega
    have := k3 (j - n) hj2 (by omega)
    have hle : (cells a).length ≤ j := by omega
    rw [List.getElem_append_right hle]
    simp only [e]
    have e4 : cs[o + n + (j - n)]'(by omega) = cs[o + j] := by congr 1; omega
    rw [e4] at this
    exact this

theorem opens_struct {fs : List Field} {L : Nat} (ht : P.underlying t = some (.struct fs.toArray)) (hL : P.cellsOf t = L) (h : OpensFs P L fs 0 α cells wf) : Opens P t α cells wf := by
  subst hL
  intro H enc w sp held fuel cs x hx
  obtain ⟨xs, n, rfl, _, hcl, hxl, hxs⟩ := DataW.trod_struct ht hx
  obtain ⟨a, h1, h2, h3⟩ := h H enc w sp held n cs hcl fun i f hf => by
    have hi : i < fs.length := by have := (List.getElem?_eq_some_iff.1 hf).1; simpa using this
    have := hxs i f (by simpa using hf)
    rw [List.getElem?_eq_getElem (by rw [hxl]; simpa using hi)] at this
    exact ⟨_, this⟩
  refine ⟨a, h1, by omega, fun j hj hk => ?_⟩
  have := h3 j hj (by omega)
  simpa using this

theorem Opens.map (h : Opens P t α cells wf) (f : α → β) {cb : β → List AV} {wb : β → Prop} (hc : ∀ a, cb (f a) = cells a) (hw : ∀ a, wf a → wb (f a)) : Opens P t β cb wb := by
  intro H enc w sp held fuel cs x hx
  obtain ⟨a, h1, h2, h3⟩ := h H enc w sp held fuel cs x hx
  refine ⟨f a, hw a h1, by rw [hc]; exact h2, fun j hj hk => ?_⟩
  simp only [hc] at hj ⊢
  exact h3 j hj hk

theorem Opens.agg (h : Opens P t α cells wf) {H : Type} {enc : TypeId × Value → H} {w : World} {sp : Nat → Bool} {held : Bool} {r : Reach} {b : Nat} {v : Value} {d : DataW H} {ps : List MemPlace} (hag : aggT P t = some true) (hval : Value.okWide P w r b t v) (hd : DataW.Trod enc P w 0 sp held t v d ps) :
    ∃ a, wf a ∧ RepS (gho w) (.agg (cells a)) v := by
  obtain ⟨fuel, hf⟩ := hd
  obtain ⟨a, h1, h2, h3⟩ := h H enc w sp held fuel _ _ hf
  obtain ⟨cs, rfl⟩ : ∃ cs, v = .agg cs := by
    unfold aggT at hag
    unfold Value.okWide at hval
    split at hag
    · rename_i hu; rw [hu] at hval; obtain ⟨cs, h, _⟩ := hval; exact ⟨cs, h⟩
    · rename_i hu; rw [hu] at hval; obtain ⟨cs, h, _⟩ := hval; exact ⟨cs, h⟩
    · cases hag
    · cases hag
  have e : (Value.agg cs).cells = cs := rfl
  rw [e] at h2 h3
  refine ⟨a, h1, .agg _ cs (by simpa using h2.symm) fun j hj hk => ?_⟩
  have := (h3 j hj (by simpa using hk)).1
  simpa using this

theorem Opens.one (h : Opens P t α cells wf) {H : Type} {enc : TypeId × Value → H} {w : World} {sp : Nat → Bool} {held : Bool} {r : Reach} {b : Nat} {v : Value} {d : DataW H} {ps : List MemPlace} {el : α → AV} (hel : ∀ a, cells a = [el a]) (hag : aggT P t = some false) (hval : Value.okWide P w r b t v) (hd : DataW.Trod enc P w 0 sp held t v d ps) :
    ∃ a, wf a ∧ RepS (gho w) (el a) v := by
  obtain ⟨fuel, hf⟩ := hd
  obtain ⟨a, h1, h2, h3⟩ := h H enc w sp held fuel _ _ hf
  have e : v.cells = #[v] := by
    cases v with
    | agg cs =>
      exfalso
      unfold aggT at hag
      unfold Value.okWide at hval
      split at hag
      · cases hag
      · cases hag
      · rename_i d q1 q2 hu
        have hco : Cell.okWide P w r b t (.agg cs) := by
          rw [hu] at hval
          split at hval
          · rename_i hq; cases hq; exact (q1 _ rfl).elim
          · rename_i hq; cases hq; exact (q2 _ _ rfl).elim
          · exact hval
        unfold Cell.okWide Cell.ok at hco
        rw [hu] at hco
        cases d <;> simp at hco
      · cases hag
    | _ => rfl
  rw [e] at h3
  have := (h3 0 (by rw [hel]; simp) (by simp)).1
  refine ⟨a, h1, ?_⟩
  simpa [hel] using this
end

/-! ### a law's row -/
theorem trodAll_below {H : Type} {enc : TypeId × Value → H} {P : Program} (hl : laidOutB P = true) {W W' : World} (hb : Below W.heap.size W W') : ∀ {ts : List TypeId} {vs : List Value} {ds : List (DataW H)} {ps : List MemPlace},
    (∀ t ∈ ts, P.readableRec t = true ∧ t < P.types.size) → DataW.TrodAll enc P W 0 (fun _ => true) true ts vs ds ps → (∀ p ∈ ps, p.block < W.heap.size) → DataW.TrodAll enc P W' 0 (fun b => decide (b < W.heap.size)) true ts vs ds ps
  | [], [], [], ps, _, h, _ => h
  | t :: ts, v :: vs, d :: ds, ps, ht, ⟨p, q, h1, h2, h3⟩, hlt => by
    subst h3
    refine ⟨p, q, Below.trod hl (ht t (by simp)).1 (ht t (by simp)).2 h1 hb fun x hx => hlt x (List.mem_append_left _ hx), trodAll_below hl hb (fun t h => ht t (by simp [h])) h2 fun x hx => hlt x (List.mem_append_right _ hx), rfl⟩
  | [], _ :: _, _, _, _, h, _ => h.elim
  | [], [], _ :: _, _, _, h, _ => h.elim
  | _ :: _, [], _, _, _, h, _ => h.elim
  | _ :: _, _ :: _, [], _, _, h, _ => h.elim

def RepsL (I : Gh) : List AV → List Value → Prop
  | [], [] => True
  | a :: r, v :: s => RepS I a v ∧ RepsL I r s
  | _, _ => False
theorem repsL_get {I : Gh} : ∀ {as : List AV} {vs : List Value}, RepsL I as vs → vs.length = as.length ∧ ∀ j (hj : j < as.length) (hk : j < vs.length), RepS I (as[j]) (vs[j])
  | [], [], _ => ⟨rfl, fun j hj => by cases hj⟩
  | a :: r, v :: s, h => by
    obtain ⟨h1, h2⟩ := repsL_get h.2
    refine ⟨by simp [h1], fun j hj hk => ?_⟩
    cases j with
    | zero => exact h.1
    | succ j => exact h2 j (by simpa using hj) (by simpa using hk)
  | [], _ :: _, h => h.elim
  | _ :: _, [], h => h.elim

/-- A LAW's ROW OUT OF ITS FUNCTION's CONTRACT -/
theorem law_calls {H : Type} {enc : TypeId × Value → H} {P : Program} {f : Func} {fid : FuncId} {s : ChangeSpec} {W : World} {args : Array Value} {ds gs : List (DataW H)} {before : List MemPlace} {avs : List AV} {tb : TypeId} {ts : List TypeId}
    (hl : laidOutB P = true) (hp : f.params = ts.toArray) (hts : (ts.all fun t => P.readableRec t && decide (t < P.types.size)) = true) (hv : s.vars = []) (hrt : f.resultTypes = #[tb]) (hub : P.underlying tb = some .bool)
    (hfn : gs = [] → (s.fn H (ds ++ gs)).results = [.lit (.bool true)] ∧ (s.fn H (ds ++ gs)).args = ds ∧ (s.fn H (ds ++ gs)).vars = [])
    (hW : DataW.Whole enc P f.params.toList s.vars false W args.toList ds gs before) (hspec : SpecAt P fid avs (.bl true)) (hr : RepsL (gho W) avs args.toList) :
    Calls P fid args W fun e W' => ∃ r, e = .returned r ∧ s.post enc P f false true false false W args r W' := by
  obtain ⟨hn, hr⟩ := repsL_get hr
  refine (hspec.2.2 (gho W) W args (held_gho W) (by simpa using hn) (fun j hj hk => by have q := hr j hj (by simpa using hk); rw [Array.getElem_toList] at q; exact q)).mono ?_
  rintro e W' ⟨I', x, rfl, hx, hg⟩
  have hx' : x = .bool true := by cases hx; rfl
  subst hx'
  have hW' := hW
  obtain ⟨p, q, hA, hV, hpq, hfz, hnd⟩ := hW
  rw [hv] at hV
  obtain ⟨hgs, hq⟩ := trodVars_none hV
  subst hgs; subst hq
  obtain ⟨f1, f2, f3⟩ := hfn rfl
  have hts' : ∀ t ∈ f.params.toList, P.readableRec t = true ∧ t < P.types.size := fun t ht => by
    rw [hp] at ht
    have := List.all_eq_true.1 hts t (by simpa using ht)
    simpa using this
  refine ⟨_, rfl, ds, [], before, [], p, [], hW', ?_, ?_, ?_, Below.frame hg.below _, fun h => by cases h⟩
  · rw [f1, hrt]
    exact trodAll_cons_mk (RowKit.shut_bool hub _) trodAll_mk0
  · rw [f2]
    exact trodAll_below hl hg.below hts' hA fun x hx => hW'.lt x (by rw [hpq]; exact List.mem_append_left _ hx)
  · rw [f3, hv]; rfl
end Go.AM
namespace Go.AM

theorem drop_cons {α : Type} (l : List α) (k : Nat) (h : k < l.length) : l.drop k = l[k] :: l.drop (k+1) := by simp
theorem take_succ' {α : Type} (l : List α) (k : Nat) (h : k < l.length) : l.take (k + 1) = l.take k ++ [l[k]] := by simp
theorem setCells_mid (x y : List AV) : ∀ (b c : List AV), c.length = b.length → setCells (x ++ b ++ y) x.length c = x ++ c ++ y := by
  intro b
  induction b generalizing x with
  | nil => intro c hc; cases c with | nil => rfl | cons => simp at hc
  | cons u r ih =>
    intro c hc
    cases c with
    | nil => simp at hc
    | cons v s =>
      have h1 : (x ++ u :: r ++ y).set x.length v = (x ++ [v]) ++ r ++ y := by simp [List.set_append]
      have h2 := ih (x ++ [v]) s (by simpa using hc)
      rw [setCells, h1]
      rw [List.length_append, List.length_cons, List.length_nil] at h2
      rw [h2]; simp
theorem map_repC (f : AV → AV) (l : List AV) : ∀ n, (repC n l).map f = repC n (l.map f)
  | 0 => by rw [repC_zero, repC_zero]; rfl
  | n + 1 => by rw [repC_succ, repC_succ, List.map_append, map_repC f l n]
theorem map_replicate (f : AV → AV) (n : Nat) (x : AV) : (List.replicate n x).map f = List.replicate n (f x) := by simp
theorem repC_len (n : Nat) (l : List AV) : (repC n l).length = n * l.length := (repC_get l n).1
theorem flat_len {α : Type} {f : α → List AV} {z : Nat} (hz : ∀ x, (f x).length = z) : ∀ l : List α, (l.flatMap f).length = l.length * z
  | [] => by simp
  | x :: r => by rw [List.flatMap_cons, List.length_append, hz, flat_len hz r, List.length_cons, Nat.add_mul]; omega

/-- a row that is being filled: the first k elements stand, the others are zero -/
def filling {α : Type} (f : α → List AV) (zs : List AV) (l : List α) (k : Nat) : List AV := (l.take k).flatMap f ++ repC (l.length - k) zs
section
variable {α : Type} {f : α → List AV} {zs : List AV} {z : Nat} (hz : ∀ x, (f x).length = z) (hzs : zs.length = z) (l : List α)
include hz hzs
theorem filling_len (k : Nat) (hk : k ≤ l.length) : (filling f zs l k).length = l.length * z := by
  unfold filling
  rw [List.length_append, flat_len hz, repC_len, hzs, ← Nat.add_mul, List.length_take]
  congr 1; omega
theorem filling_ok (k : Nat) (hk : k < l.length) : k * z + z ≤ (filling f zs l k).length := by
  rw [filling_len hz hzs l k (by omega)]
  calc k * z + z = (k + 1) * z := by rw [Nat.add_mul]; omega
    _ ≤ l.length * z := Nat.mul_le_mul_right _ hk
theorem filling_step (k : Nat) (hk : k < l.length) : setCells (filling f zs l k) (k * z) (f l[k]) = filling f zs l (k + 1) := by
  unfold filling
  have e1 : l.length - k = (l.length - (k + 1)) + 1 := by omega
  have e2 : k * z = ((l.take k).flatMap f).length := by rw [flat_len hz, List.length_take]; congr 1; omega
  rw [e1, repC_succ, e2, ← List.append_assoc, setCells_mid _ _ zs (f l[k]) (by rw [hz, hzs])]
  rw [take_succ' l k hk, List.flatMap_append]
  simp
end
theorem filling_zero {α : Type} (f : α → List AV) (zs : List AV) (l : List α) : filling f zs l 0 = repC l.length zs := by simp [filling]
theorem filling_all {α : Type} (f : α → List AV) (zs : List AV) (l : List α) : filling f zs l l.length = l.flatMap f := by simp [filling, repC_zero]
theorem stats_flat {α : Type} {f : α → List AV} (h : ∀ x, ∀ a ∈ f x, a.stat1 = some a) (l : List α) : AV.stats (l.flatMap f) = some (l.flatMap f) :=
  stats_id _ fun a ha => by
    obtain ⟨x, _, hx⟩ := List.mem_flatMap.1 ha
    exact h x a hx
theorem stats_map {α : Type} {f : α → AV} (h : ∀ x, (f x).stat1 = some (f x)) (l : List α) : AV.stats (l.map f) = some (l.map f) :=
  stats_id _ fun a ha => by
    obtain ⟨x, _, rfl⟩ := List.mem_map.1 ha
    exact h x
theorem flatMap_one {α : Type} (f : α → AV) (l : List α) : (l.flatMap fun x => [f x]) = l.map f := by
  induction l with
  | nil => rfl
  | cons x r ih => simp [ih]
end Go.AM

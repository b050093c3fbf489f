/-
  A NIL SLICE, LOOKED AT AS AN EMPTY OWNED ONE: at a loop's head.
-/
import Derived.Test.YtbhaeaehgmpfhaaM2SC
set_option linter.unusedVariables false
set_option linter.unusedSimpArgs false
namespace Go.AM
theorem any_at' : ∀ p : Path, AV.any.at p = .any
  | [] => rfl
  | ij :: p => by
    have : AV.any.cellAt ij.1 ij.2 = .any := by simp [AV.cellAt]
    rw [AV.at, this, any_at' p]
theorem trn_at (z : Nat) : ∀ p : Path, p ≠ [] → (AV.tr z []).at p = .any
  | [], h => (h rfl).elim
  | ij :: p, _ => by
    have : (AV.tr z []).cellAt ij.1 ij.2 = .any := by
      simp only [AV.cellAt, List.getD_nil, AV.cells]
      cases ij.2 <;> simp
    rw [AV.at, this, any_at' p]
def St.nilAs (st : St) (d s z : Nat) : St := ((st.kill s).setMem s (.tr z [])).put (some d) (.ref s [] z 0 0)
theorem ent_nil (st : St) (d s z : Nat) (h : st.fr d = .nilsl) (hs : 6 ≤ s) : Ent st (st.nilAs d s z) := by
  rintro N E a w h6 ⟨I, ρ, c⟩
  have c1 := c.kill (ρ' := fun s' => if s' = s then (fun _ => none) else ρ s') s (fun s' hne => by simp [hne])
  have hself : (fun s' => if s' = s then (fun _ => none) else ρ s') s = (fun _ => none : Path → Option Plc) := by simp
  have hno : ∀ s' T p k, (((st.kill s).setMem s (.tr z [])).mem s' = some T) → (T.at p).isNode = true → (if s' = s then (fun _ => none) else ρ s') p = some k → s' ≠ s ∧ (st.kill s).mem s' = some T := by
    intro s' T p k hm _ hk
    by_cases e : s' = s
    · subst e; simp at hk
    · simp only [St.setMem, e, if_false] at hm; exact ⟨e, hm⟩
  have hget : ∀ s' T, (((st.kill s).setMem s (.tr z [])).mem s' = some T) → (s' = s ∧ T = .tr z []) ∨ (s' ≠ s ∧ (st.kill s).mem s' = some T) := by
    intro s' T hm
    by_cases e : s' = s
    · subst e; simp only [St.setMem, if_true] at hm; cases hm; exact .inl ⟨rfl, rfl⟩
    · simp only [St.setMem, e, if_false] at hm; exact .inr ⟨e, hm⟩
  refine ⟨I, (fun s' => if s' = s then (fun _ => none) else ρ s'), ⟨c1.held, c1.below, c1.keeps, c1.size, c1.defers, fun i => ?_, ⟨fun s' T p hm => ?_, fun s' T p k hm hn hk => ?_, fun s' T p k s'' T' p' k' h1 h2 h3 h4 h5 h7 hb => ?_⟩, fun b hb => ?_, fun i c' T q h1 h2 h3 => ?_⟩⟩
  · by_cases e : i = d
    · subst e
      have hr := c.fr i
      rw [h] at hr
      show Rep I _ ((St.nilAs st i s z).fr i) _
      simp only [St.nilAs, St.put, if_true]
      generalize a.tmps.getD i undef = y at hr
      cases hr with
      | stat q => cases q; exact .ref0 s [] z 0 none
    · show Rep I _ ((St.nilAs st d s z).fr i) _
      simp only [St.nilAs, St.put, e, if_false]
      exact c1.fr i
  · rcases hget s' T hm with ⟨rfl, rfl⟩ | ⟨e, hm'⟩
    · simp only [if_true]
      by_cases hp : p = []
      · subst hp; exact .inl ⟨rfl, rfl⟩
      · rw [trn_at z p hp]; trivial
    · exact c1.mem.row s' T p hm'
  · exact c1.mem.free s' T p k (hno s' T p k hm hn hk).2 hn hk
  · exact c1.mem.inj s' T p k s'' T' p' k' (hno s' T p k h1 h2 h3).2 h2 h3 (hno s'' T' p' k' h4 h5 h7).2 h5 h7 hb
  · obtain ⟨s', T, p, k, h1, h2, h3, h4⟩ := hb
    exact c1.lo b ⟨s', T, p, k, (hno s' T p k h1 h2 h3).2, h2, h3, h4⟩
  · rcases hget i T h2 with ⟨rfl, rfl⟩ | ⟨e, hm'⟩
    · have : i < E.args.length := (List.getElem?_eq_some_iff.1 h1).1
      omega
    · exact c1.fix i c' T q h1 hm' h3
/-- a loop whose list is nil ahead of the first round -/
theorem awp_loopN {P : Program} {M : FuncId → List Bool} {c : Code} {Q : Exit → St → Prop} {st : St} {l : Lock c} {m : Lock Q} (d s z : Nat) (hd : st.fr d = .nilsl) (hs : 6 ≤ s) (J : Nat → St → Prop) (N : Nat) (h0 : J 0 (st.nilAs d s z))
    (h : ∀ k st1, k ≤ N → J k st1 → AWP P M c (thenQ (fun st' => k < N ∧ J (k + 1) st') Q) st1) : LoopP P M c Q st l m :=
  awp_loopE (st.nilAs d s z) (ent_nil st d s z hd hs) J N h0 h
/-! an owned tree gets another number -/
def St.ren (st : St) (s s' : Nat) (T : AV) : St := ((st.mapF (moveF s [] s' [])).del s).setMem s' T
def St.nilC (st : St) (s j z w : Nat) (cs : List AV) : St := (st.mapF (fromF s [(0, j)])).setMem s (.pt z (.agg (cs.set j (.tr w []))))
theorem nilAs_eq (st : St) (d s z : Nat) : st.nilAs d s z = ((st.kill s).setMem s (.tr z [])).put (some d) (.ref s [] z 0 0) := rfl
end Go.AM

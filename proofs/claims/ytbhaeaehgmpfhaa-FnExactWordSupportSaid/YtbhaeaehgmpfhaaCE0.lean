/-
  A NIL SLICE, LOOKED AT AS AN EMPTY OWNED ONE: at a loop's head.
-/
import Derived.Test.YtbhaeaehgmpfhaaM2SC
set_option linter.unusedVariables false
set_option linter.unusedSimpArgs false
namespace Go.AM
theorem any_at' : ∀ p : Path, AV.any.at p = .any
  | [] => rfl
  | ij :: p => by
    have : AV.any.cellAt ij.1 ij.2 = .any := by simp [AV.cellAt]
    rw [AV.at, this, any_at' p]
theorem trn_at (z : Nat) : ∀ p : Path, p ≠ [] → (AV.tr z []).at p = .any
  | [], h => (h rfl).elim
  | ij :: p, _ => by
    have : (AV.tr z []).cellAt ij.1 ij.2 = .any := by
      simp only [AV.cellAt, List.getD_nil, AV.cells]
      cases ij.2 <;> simp
    rw [AV.at, this, any_at' p]
def St.nilAs (st : St) (d s z : Nat) : St := ((st.kill s).setMem s (.tr z [])).put (some d) (.ref s [] z 0 0)
theorem ent_nil (st : St) (d s z : Nat) (h : st.fr d = .nilsl) (hs : 6 ≤ s) : Ent st (st.nilAs d s z) := by
  rintro N E a w h6 ⟨I, ρ, c⟩
  have c1 := c.kill (ρ' := fun s' => if s' = s then (fun _ => none) else ρ s') s (fun s' hne => by simp [hne])
  have hself : (fun s' => if s' = s then (fun _ => none) else ρ s') s = (fun _ => none : Path → Option Plc) := by simp
  have hno : ∀ s' T p k, (((st.kill s).setMem s (.tr z [])).mem s' = some T) → (T.at p).isNode = true → (if s' = s then (fun _ => none) else ρ s') p = some k → s' ≠ s ∧ (st.kill s).mem s' = some T := by
    intro s' T p k hm _ hk
    by_cases e : s' = s
    · subst e; simp at hk
    · simp only [St.setMem, e, if_false] at hm; exact ⟨e, hm⟩
  have hget : ∀ s' T, (((st.kill s).setMem s (.tr z [])).mem s' = some T) → (s' = s ∧ T = .tr z []) ∨ (s' ≠ s ∧ (st.kill s).mem s' = some T) := by
    intro s' T hm
    by_cases e : s' = s
    · subst e; simp only [St.setMem, if_true] at hm; cases hm; exact .inl ⟨rfl, rfl⟩
    · simp only [St.setMem, e, if_false] at hm; exact .inr ⟨e, hm⟩
  refine ⟨I, (fun s' => if s' = s then (fun _ => none) else ρ s'), ⟨c1.held, c1.below, c1.keeps, c1.size, c1.defers, fun i => ?_, ⟨fun s' T p hm => ?_, fun s' T p k hm hn hk => ?_, fun s' T p k s'' T' p' k' h1 h2 h3 h4 h5 h7 hb => ?_⟩, fun b hb => ?_, fun i c' T q h1 h2 h3 => ?_⟩⟩
  · by_cases e : i = d
    · subst e
      have hr := c.fr i
      rw [h] at hr
      show Rep I _ ((St.nilAs st i s z).fr i) _
      simp only [St.nilAs, St.put, if_true]
      generalize a.tmps.getD i undef = y at hr
      cases hr with
      | stat q => cases q; exact .ref0 s [] z 0 none
    · show Rep I _ ((St.nilAs st d s z).fr i) _
      simp only [St.nilAs, St.put, e, if_false]
      exact c1.fr i
  · rcases hget s' T hm with ⟨rfl, rfl⟩ | ⟨e, hm'⟩
    · simp only [if_true]
      by_cases hp : p = []
      · subst hp; exact .inl ⟨rfl, rfl⟩
      · rw [trn_at z p hp]; trivial
    · exact c1.mem.row s' T p hm'
  · exact c1.mem.free s' T p k (hno s' T p k hm hn hk).2 hn hk
  · exact c1.mem.inj s' T p k s'' T' p' k' (hno s' T p k h1 h2 h3).2 h2 h3 (hno s'' T' p' k' h4 h5 h7).2 h5 h7 hb
  · obtain ⟨s', T, p, k, h1, h2, h3, h4⟩ := hb
    exact c1.lo b ⟨s', T, p, k, (hno s' T p k h1 h2 h3).2, h2, h3, h4⟩
  · rcases hget i T h2 with ⟨rfl, rfl⟩ | ⟨e, hm'⟩
    · have : i < E.args.length := (List.getElem?_eq_some_iff.1 h1).1
      omega
    · exact c1.fix i c' T q h1 hm' h3
/-- a loop whose list is nil ahead of the first round -/
theorem awp_loopN {P : Program} {M : FuncId → List Bool} {c : Code} {Q : Exit → St → Prop} {st : St} {l : Lock c} {m : Lock Q} (d s z : Nat) (hd : st.fr d = .nilsl) (hs : 6 ≤ s) (J : Nat → St → Prop) (N : Nat) (h0 : J 0 (st.nilAs d s z))
    (h : ∀ k st1, k ≤ N → J k st1 → AWP P M c (thenQ (fun st' => k < N ∧ J (k + 1) st') Q) st1) : LoopP P M c Q st l m :=
  awp_loopE (st.nilAs d s z) (ent_nil st d s z hd hs) J N h0 h
/-! an owned tree gets another number -/
def St.ren (st : St) (s s' : Nat) (T : AV) : St := ((st.mapF (moveF s [] s' [])).del s).setMem s' T
theorem ren_eq (st : St) (s s' : Nat) (T : AV) : st.ren s s' T = ((st.mapF (moveF s [] s' [])).del s).setMem s' T := rfl
theorem ent_ren (st : St) (s s' : Nat) (T : AV) (hT : st.mem s = some T) (hs : 6 ≤ s) (hs' : 6 ≤ s') (hne : s ≠ s') : Ent st (st.ren s s' T) := by
  rintro N E a w h6 ⟨I, ρ, c⟩
  have hget : ∀ x X, (st.ren s s' T).mem x = some X → ∃ y, st.mem y = some X ∧ (if x = s' then ρ s else ρ x) = ρ y ∧ (x = s' ∧ y = s ∨ x ≠ s' ∧ x ≠ s ∧ y = x) := by
    intro x X hx
    simp only [St.ren, St.setMem, St.del, St.mapF] at hx
    by_cases e : x = s'
    · rw [if_pos e] at hx; cases hx; exact ⟨s, hT, by simp [e], .inl ⟨e, rfl⟩⟩
    · rw [if_neg e] at hx
      by_cases e2 : x = s
      · rw [if_pos e2] at hx; cases hx
      · rw [if_neg e2] at hx; exact ⟨x, hx, by simp [e], .inr ⟨e, e2, rfl⟩⟩
  refine ⟨I, (fun x => if x = s' then ρ s else ρ x), ?_⟩
  have hsep : Sep I (fun x => if x = s' then ρ s else ρ x) w (st.ren s s' T).mem := by
    refine ⟨fun x X p hx => ?_, fun x X p k hx hn hk => ?_, fun x X p k x' X' p' k' h1 h2 h3 h4 h5 h7 hb => ?_⟩
    · obtain ⟨y, h1, h2, _⟩ := hget x X hx
      show NodeOk I ((fun x => if x = s' then ρ s else ρ x) x) w p (X.at p)
      simp only [h2]; exact c.mem.row y X p h1
    · obtain ⟨y, h1, h2, _⟩ := hget x X hx
      simp only [h2] at hk; exact c.mem.free y X p k h1 hn hk
    · obtain ⟨y, k1, k2, k3⟩ := hget x X h1
      obtain ⟨y', j1, j2, j3⟩ := hget x' X' h4
      simp only [k2] at h3; simp only [j2] at h7
      obtain ⟨q1, q2⟩ := c.mem.inj y X p k y' X' p' k' k1 h2 h3 j1 h5 h7 hb
      refine ⟨?_, q2⟩
      rcases k3 with ⟨a1, a2⟩ | ⟨a1, a2, a3⟩ <;> rcases j3 with ⟨b1, b2⟩ | ⟨b1, b2, b3⟩ <;> omega
  refine c.remap (ρ' := fun x => if x = s' then ρ s else ρ x) (mem' := (st.ren s s' T).mem) (moveF s [] s' []) (fun x p x' p' hf => ?_) c.held (fun _ _ _ h => h) c.below c.keeps hsep (fun b hb => ?_) (fun i c' X q h1 hX h3 => ?_)
  · unfold moveF at hf
    by_cases e : x = s
    · rw [if_pos e] at hf
      have : isPref [] p = true := by cases p <;> rfl
      rw [this] at hf
      simp only [List.length_nil, List.drop_zero, List.nil_append, Option.some.injEq, Prod.mk.injEq] at hf
      obtain ⟨rfl, rfl⟩ := hf
      simp [e]
    · rw [if_neg e] at hf
      unfold fromF at hf
      by_cases e2 : x = s'
      · rw [if_pos e2] at hf
        have : isPref [] p = true := by cases p <;> rfl
        rw [this] at hf; cases hf
      · rw [if_neg e2] at hf; cases hf; simp [e2]
  · obtain ⟨x, X, p, k, h1, h2, h3, h4⟩ := hb
    obtain ⟨y, k1, k2, _⟩ := hget x X h1
    simp only [k2] at h3
    exact c.lo b ⟨y, X, p, k, k1, h2, h3, h4⟩
  · obtain ⟨y, k1, k2, k3⟩ := hget i X hX
    have hi : i < E.args.length := (List.getElem?_eq_some_iff.1 h1).1
    rcases k3 with ⟨a1, _⟩ | ⟨a1, a2, a3⟩
    · omega
    · subst a3; simp only [a1, if_false]; exact c.fix y c' X q h1 k1 h3
theorem awp_loopR {P : Program} {M : FuncId → List Bool} {c : Code} {Q : Exit → St → Prop} {st : St} {l : Lock c} {m : Lock Q} (s s' : Nat) (T : AV) (hT : st.mem s = some T) (hs : 6 ≤ s) (hs' : 6 ≤ s') (hne : s ≠ s') (J : Nat → St → Prop) (N : Nat) (h0 : J 0 (st.ren s s' T))
    (h : ∀ k st1, k ≤ N → J k st1 → AWP P M c (thenQ (fun st' => k < N ∧ J (k + 1) st') Q) st1) : LoopP P M c Q st l m :=
  awp_loopE (st.ren s s' T) (ent_ren st s s' T hT hs hs' hne) J N h0 h
/-- the tree of root s is renamed to s' at the head; behind each round the state may be looked at in another way, too -/
theorem awp_loopGR {P : Program} {M : FuncId → List Bool} {c : Code} {Q : Exit → St → Prop} {st : St} {l : Lock c} {m : Lock Q} (s s' : Nat) (T : AV) (hT : st.mem s = some T) (hs : 6 ≤ s) (hs' : 6 ≤ s') (hne : s ≠ s') (J : Nat → St → Prop) (N : Nat) (h0 : J 0 (st.ren s s' T))
    (h : ∀ k st1, k ≤ N → J k st1 → AWP P M c (thenQ (fun st' => k < N ∧ ∃ st'', Ent st' st'' ∧ J (k + 1) st'') Q) st1) : LoopP P M c Q st l m :=
  awp_loopG (st.ren s s' T) (ent_ren st s s' T hT hs hs' hne) J N h0 h
/-! a nil slice in a cell of a variable -/
def St.nilC (st : St) (s j z w : Nat) (cs : List AV) : St := (st.mapF (fromF s [(0, j)])).setMem s (.pt z (.agg (cs.set j (.tr w []))))
theorem nilAs_eq (st : St) (d s z : Nat) : st.nilAs d s z = ((st.kill s).setMem s (.tr z [])).put (some d) (.ref s [] z 0 0) := rfl
end Go.AM

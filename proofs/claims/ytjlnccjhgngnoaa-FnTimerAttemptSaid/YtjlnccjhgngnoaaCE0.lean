/-
  A NIL SLICE, LOOKED AT AS AN EMPTY OWNED ONE: at a loop's head.
-/
import Derived.Test.YtjlnccjhgngnoaaM2SC
set_option linter.unusedVariables false
set_option linter.unusedSimpArgs false
namespace Go.AM
def St.nilAs (st : St) (d s z : Nat) : St := ((st.kill s).setMem s (.tr z [])).put (some d) (.ref s [] z 0 0)
def St.ren (st : St) (s s' : Nat) (T : AV) : St := ((st.mapF (moveF s [] s' [])).del s).setMem s' T
theorem ren_eq (st : St) (s s' : Nat) (T : AV) : st.ren s s' T = ((st.mapF (moveF s [] s' [])).del s).setMem s' T := rfl
theorem ent_ren (st : St) (s s' : Nat) (T : AV) (hT : st.mem s = some T) (hs : 6 ≤ s) (hs' : 6 ≤ s') (hne : s ≠ s') : Ent st (st.ren s s' T) := by
  rintro N E a w h6 ⟨I, ρ, c⟩
  have hget : ∀ x X, (st.ren s s' T).mem x = some X → ∃ y, st.mem y = some X ∧ (if x = s' then ρ s else ρ x) = ρ y ∧ (x = s' ∧ y = s ∨ x ≠ s' ∧ x ≠ s ∧ y = x) := by
    intro x X hx
    simp only [St.ren, St.setMem, St.del, St.mapF] at hx
    by_cases e : x = s'
    · rw [if_pos e] at hx; cases hx; exact ⟨s, hT, by simp [e], .inl ⟨e, rfl⟩⟩
    · rw [if_neg e] at hx
      by_cases e2 : x = s
      · rw [if_pos e2] at hx; cases hx
      · rw [if_neg e2] at hx; exact ⟨x, hx, by simp [e], .inr ⟨e, e2, rfl⟩⟩
  refine ⟨I, (fun x => if x = s' then ρ s else ρ x), ?_⟩
  have hsep : Sep I (fun x => if x = s' then ρ s else ρ x) w (st.ren s s' T).mem := by
    refine ⟨fun x X p hx => ?_, fun x X p k hx hn hk => ?_, fun x X p k x' X' p' k' h1 h2 h3 h4 h5 h7 hb => ?_⟩
    · obtain ⟨y, h1, h2, _⟩ := hget x X hx
      show NodeOk I ((fun x => if x = s' then ρ s else ρ x) x) w p (X.at p)
      simp only [h2]; exact c.mem.row y X p h1
    · obtain ⟨y, h1, h2, _⟩ := hget x X hx
      simp only [h2] at hk; exact c.mem.free y X p k h1 hn hk
    · obtain ⟨y, k1, k2, k3⟩ := hget x X h1
      obtain ⟨y', j1, j2, j3⟩ := hget x' X' h4
      simp only [k2] at h3; simp only [j2] at h7
      obtain ⟨q1, q2⟩ := c.mem.inj y X p k y' X' p' k' k1 h2 h3 j1 h5 h7 hb
      refine ⟨?_, q2⟩
      rcases k3 with ⟨a1, a2⟩ | ⟨a1, a2, a3⟩ <;> rcases j3 with ⟨b1, b2⟩ | ⟨b1, b2, b3⟩ <;> omega
  refine c.remap (ρ' := fun x => if x = s' then ρ s else ρ x) (mem' := (st.ren s s' T).mem) (moveF s [] s' []) (fun x p x' p' hf => ?_) c.held (fun _ _ _ h => h) c.below c.keeps hsep (fun b hb => ?_) (fun i c' X q h1 hX h3 => ?_)
  · unfold moveF at hf
    by_cases e : x = s
    · rw [if_pos e] at hf
      have : isPref [] p = true := by cases p <;> rfl
      rw [this] at hf
      simp only [List.length_nil, List.drop_zero, List.nil_append, Option.some.injEq, Prod.mk.injEq] at hf
      obtain ⟨rfl, rfl⟩ := hf
      simp [e]
    · rw [if_neg e] at hf
      unfold fromF at hf
      by_cases e2 : x = s'
      · rw [if_pos e2] at hf
        have : isPref [] p = true := by cases p <;> rfl
        rw [this] at hf; cases hf
      · rw [if_neg e2] at hf; cases hf; simp [e2]
  · obtain ⟨x, X, p, k, h1, h2, h3, h4⟩ := hb
    obtain ⟨y, k1, k2, _⟩ := hget x X h1
    simp only [k2] at h3
    exact c.lo b ⟨y, X, p, k, k1, h2, h3, h4⟩
  · obtain ⟨y, k1, k2, k3⟩ := hget i X hX
    have hi : i < E.args.length := (List.getElem?_eq_some_iff.1 h1).1
    rcases k3 with ⟨a1, _⟩ | ⟨a1, a2, a3⟩
    · omega
    · subst a3; simp only [a1, if_false]; exact c.fix y c' X q h1 k1 h3
theorem awp_loopR {P : Program} {M : FuncId → List Bool} {c : Code} {Q : Exit → St → Prop} {st : St} {l : Lock c} {m : Lock Q} (s s' : Nat) (T : AV) (hT : st.mem s = some T) (hs : 6 ≤ s) (hs' : 6 ≤ s') (hne : s ≠ s') (J : Nat → St → Prop) (N : Nat) (h0 : J 0 (st.ren s s' T))
    (h : ∀ k st1, k ≤ N → J k st1 → AWP P M c (thenQ (fun st' => k < N ∧ J (k + 1) st') Q) st1) : LoopP P M c Q st l m :=
  awp_loopE (st.ren s s' T) (ent_ren st s s' T hT hs hs' hne) J N h0 h
/-! a nil slice in a cell of a variable -/
def St.nilC (st : St) (s j z w : Nat) (cs : List AV) : St := (st.mapF (fromF s [(0, j)])).setMem s (.pt z (.agg (cs.set j (.tr w []))))
end Go.AM

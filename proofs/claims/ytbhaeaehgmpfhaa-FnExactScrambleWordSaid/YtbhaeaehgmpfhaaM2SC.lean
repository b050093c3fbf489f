/-
  THE ABSTRACT MACHINE IS SOUND, third part: calls that are lent memory, regions, code, contracts; arguments by content.
-/
import Derived.Test.YtbhaeaehgmpfhaaM2SB
import Derived.StillTail
import Derived.ProofKit
import Derived.OpenShut
import Derived.Carry
set_option linter.unusedVariables false
set_option linter.unusedSimpArgs false
namespace Go.AM
open Go.RowKit (Below)

section
variable {P : Program} {N : Nat} {E : Entry} {st : St} {a : Act} {w w' : World} {I I' : Gh} {ρ ρ' : Pl} {mem mem' : Nat → Option AV} {H H' : Nat → Path → Prop}

/-- owned memory, but for what lies at or below the places of H -/
structure SepH (I : Gh) (ρ : Pl) (w : World) (mem : Nat → Option AV) (H : Nat → Path → Prop) : Prop where
  row : ∀ s T p, mem s = some T → ¬ H s p → NodeOk I (ρ s) w p (T.at p)
  free : ∀ s T p k, mem s = some T → ¬ H s p → (T.at p).isNode = true → ρ s p = some k → ∀ o, I k.b o = none
  inj : ∀ s T p k s' T' p' k', mem s = some T → ¬ H s p → (T.at p).isNode = true → ρ s p = some k → mem s' = some T' → ¬ H s' p' → (T'.at p').isNode = true → ρ s' p' = some k' → k.b = k'.b → s = s' ∧ p = p'
def OwnsH (ρ : Pl) (mem : Nat → Option AV) (H : Nat → Path → Prop) (b : Nat) : Prop := ∃ s T p k, mem s = some T ∧ ¬ H s p ∧ (T.at p).isNode = true ∧ ρ s p = some k ∧ k.b = b

theorem valid_row {s : Nat} {R x : AV} : ∀ (Q p1 : Path), (∀ Q' ij Q'', Q = Q' ++ ij :: Q'' → NodeOk I (ρ s) w (p1 ++ Q') (R.at (p1 ++ Q'))) → InP (R.at p1) Q → (Q ≠ [] → Sing x) → ValidP x (R.at p1) Q
  | [], _, _, _, _ => trivial
  | ij :: Q, p1, hm, h, hx => by
    obtain ⟨hin, h⟩ := h
    have e1 : R.at (p1 ++ [ij]) = (R.at p1).cellAt ij.1 ij.2 := by rw [at_append]; rfl
    refine ⟨hin, ?_, ?_⟩
    · have hrow := hm [] ij Q rfl
      rw [List.append_nil] at hrow
      generalize R.at p1 = N at hin hrow
      have row : ∀ z es, RowOk I (ρ s) w p1 z es → ∀ (h : ij.1 < es.length) (hj : ij.2 < (es[ij.1]).cells.length), Sing ((es[ij.1]).cells[ij.2]) := by
        intro z es hr h hj
        obtain ⟨k, E, arr, _, _, _, _, _, _, _, h1, h2⟩ := NodeOk.cells hr h hj
        exact cell_sing h1 h2
      cases N <;> try exact hin.elim
      case tr z es =>
        obtain ⟨hi, hj⟩ := hin
        refine .inr (.inr ⟨?_, fun q => hx (by simp)⟩)
        have : (AV.tr z es).cellAt ij.1 ij.2 = (es[ij.1]).cells[ij.2] := by
          show (es.getD ij.1 .any).cells.getD ij.2 .any = _
          rw [getD_lt hi, getD_lt hj]
        rw [this]; exact row z es hrow hi hj
      case pt z y =>
        obtain ⟨hi, hj⟩ := hin
        refine .inr (.inr ⟨?_, fun q => hx (by simp)⟩)
        have : (AV.pt z y).cellAt ij.1 ij.2 = y.cells[ij.2] := by
          rw [hi]
          show y.cells.getD ij.2 .any = _
          rw [getD_lt hj]
        rw [this]
        obtain ⟨k, E, arr, _, _, _, _, _, _, _, h1, h2⟩ := NodeOk.cells (i := 0) (j := ij.2) hrow (by simp) hj
        exact cell_sing h1 h2
      case agg fs => exact .inl ⟨fs, rfl⟩
      case tup fs => exact .inr (.inl ⟨fs, rfl⟩)
    · rw [← e1]
      rw [← e1] at h
      refine valid_row (s := s) Q (p1 ++ [ij]) (fun Q' kl Q'' e => ?_) h (fun _ => hx (by simp))
      have := hm (ij :: Q') kl Q'' (by rw [e]; rfl)
      simpa using this

/-- a tree is changed at one place -/
theorem SepH.setP (m : SepH I ρ w mem H) {s : Nat} {R x : AV} {Q : Path} (hR : mem s = some R) (hv : ValidP x R Q) (hx : Q ≠ [] → Sing x)
    (hH : ∀ s' p', ¬ H' s' p' → ¬ H s' p' ∨ (s' = s ∧ Q <+: p'))
    (hcell : ∀ v, v.oneCell' = true → CellOk I (ρ s Q) (R.at Q) v → CellOk I (ρ' s Q) x v) (hρ : ∀ s' p', (s' ≠ s ∨ ¬ Q <+: p') → ρ' s' p' = ρ s' p')
    (hrow : ∀ r, ¬ H' s (Q ++ r) → NodeOk I (ρ' s) w (Q ++ r) (x.at r)) (hfree : ∀ r k, ¬ H' s (Q ++ r) → (x.at r).isNode = true → ρ' s (Q ++ r) = some k → ∀ o, I k.b o = none)
    (hinj : ∀ r k r' k', (x.at r).isNode = true → ρ' s (Q ++ r) = some k → (x.at r').isNode = true → ρ' s (Q ++ r') = some k' → k.b = k'.b → r = r')
    (hsep : ∀ r k s' T' p' k', (x.at r).isNode = true → ρ' s (Q ++ r) = some k → mem s' = some T' → ¬ H s' p' → (T'.at p').isNode = true → ρ s' p' = some k' → (s' ≠ s ∨ ¬ Q <+: p') → k.b ≠ k'.b) :
    SepH I ρ' w (fun i => if i = s then some (R.setP Q x) else mem i) H' := by
  have hat : ∀ r, (R.setP Q x).at (Q ++ r) = x.at r := fun r => at_setP Q R r hv
  have hnode : ∀ p, ¬ Q <+: p → ((R.setP Q x).at p).isNode = (R.at p).isNode := by
    intro p hp
    rcases at_setP_ne Q R p hv hp with ⟨h, _⟩ | ⟨ij, Q', _, h, hin, _⟩
    · rw [h]
    · rw [h]
      generalize R.at p = A at hin ⊢
      cases A <;> first | rfl | exact hin.elim
  have hold : ∀ s' T' p, (if s' = s then some (R.setP Q x) else mem s') = some T' → (T'.at p).isNode = true → (s' ≠ s ∨ ¬ Q <+: p) → ∃ T0, mem s' = some T0 ∧ (T0.at p).isNode = true := by
    intro s' T' p h h1 h2
    split at h
    · rename_i e
      cases h
      subst e
      have hp := h2.resolve_left (fun q => q rfl)
      exact ⟨R, hR, by rw [← hnode p hp]; exact h1⟩
    · exact ⟨T', h, h1⟩
  have hsplit : ∀ s' T' p, (if s' = s then some (R.setP Q x) else mem s') = some T' → (s' = s ∧ ∃ r, p = Q ++ r ∧ T'.at p = x.at r) ∨ (s' ≠ s ∨ ¬ Q <+: p) := by
    intro s' T' p h
    by_cases e : s' = s
    · by_cases hp : Q <+: p
      · obtain ⟨r, rfl⟩ := hp
        rw [if_pos e] at h
        cases h
        exact .inl ⟨e, r, rfl, hat r⟩
      · exact .inr (.inr hp)
    · exact .inr (.inl e)
  have hH1 : ∀ s' p', ¬ H' s' p' → (s' ≠ s ∨ ¬ Q <+: p') → ¬ H s' p' := by
    intro s' p' h1 h2
    rcases hH s' p' h1 with h | ⟨h, h'⟩
    · exact h
    · rcases h2 with h2 | h2
      · exact (h2 h).elim
      · exact (h2 h').elim
  refine ⟨fun s' T' p h hh => ?_, fun s' T' p k h hh h1 h2 => ?_, fun s1 T1 p1 k1 s2 T2 p2 k2 h1 hh1 g1 q1 h2 hh2 g2 q2 he => ?_⟩
  · rcases hsplit s' T' p h with ⟨rfl, r, rfl, e⟩ | hp
    · rw [e]; exact hrow r hh
    · have hh0 := hH1 s' p hh hp
      by_cases e : s' = s
      · subst e
        have hp := hp.resolve_left (fun q => q rfl)
        rw [if_pos rfl] at h
        cases h
        have hρ' : ∀ p', ¬ Q <+: p' → ρ' s' p' = ρ s' p' := fun p' q => hρ s' p' (.inr q)
        rcases at_setP_ne Q R p hv hp with ⟨h, hpq⟩ | ⟨ij, Q', hQ, h, hin, hvv, hsg⟩
        · rw [h]
          have hr := m.row s' R p hR hh0
          have hex : ¬ ∃ i' j', Q <+: p ++ [(i', j')] := by
            rintro ⟨i', j', hq⟩
            have h1 : p <+: p ++ [(i', j')] := List.prefix_append _ _
            rcases Nat.le_total Q.length p.length with hl | hl
            · exact hp (List.prefix_of_prefix_length_le hq h1 hl)
            · exact hpq (List.prefix_of_prefix_length_le h1 hq hl)
          show NodeOk I (ρ' s') w p (R.at p)
          have hπ : ∀ i' j', ρ' s' (p ++ [(i', j')]) = ρ s' (p ++ [(i', j')]) := fun i' j' => hρ' _ fun q => hex ⟨i', j', q⟩
          have row : ∀ z es, RowOk I (ρ s') w p z es → RowOk I (ρ' s') w p z es := by
            intro z es hrr
            rcases hrr with ⟨q1, q2⟩ | ⟨k, E, arr, q1, q2, q3, q3', q4, q5, q6⟩
            · exact .inl ⟨by rw [hρ' p hp]; exact q1, q2⟩
            · exact .inr ⟨k, E, arr, by rw [hρ' p hp]; exact q1, q2, q3, q3', q4, q5, fun i hi => ⟨(q6 i hi).1, fun j hj => by rw [hπ i j]; exact (q6 i hi).2 j hj⟩⟩
          generalize R.at p = A at hr ⊢
          cases A <;> try trivial
          case tr z es => exact row z es hr
          case pt z y => exact row z [y] hr
          case mt kd f =>
            obtain ⟨k, es, c, q1, q2, q3⟩ := hr
            exact ⟨k, es, c, by rw [hρ' p hp]; exact q1, q2, q3⟩
        · rw [h]
          have hr := m.row s' R p hR hh0
          rcases hsg with ⟨fs, e⟩ | ⟨fs, e⟩ | ⟨hsg, _⟩
          · rw [e]; trivial
          · rw [e]; trivial
          refine node_setAt hin hr (fun _ _ _ h => h) (fun k hn hk => rfl) (hρ' p hp) (fun a b hab => hρ' _ (by rw [hQ]; exact not_pref_snoc (by obtain ⟨_, _⟩ := ij; exact hab))) ?_ ?_
          · cases Q' with
            | nil => exact hx (by rw [hQ]; simp)
            | cons kl Q'' =>
              exact setAt_sing hsg
          · intro v h1 hk h2
            cases Q' with
            | nil =>
              have := hcell v h1
              rw [hQ, at_snoc] at this
              exact this h2
            | cons kl Q'' =>
              have hnp : ¬ Q <+: p ++ [(ij.1, ij.2)] := by
                rintro ⟨r, hr'⟩
                have := congrArg List.length hr'
                rw [hQ] at this
                simp at this
              have h3 : CellOk I (ρ' s' (p ++ [(ij.1, ij.2)])) ((R.at p).cellAt ij.1 ij.2) v := by rw [hρ' _ hnp]; exact h2
              exact setP_atom _ _ v h1 h3 hvv.1
      · rw [if_neg e] at h
        have hr := m.row s' T' p h hh0
        have e2 : ρ' s' = ρ s' := funext fun p' => hρ s' p' (.inl e)
        rw [e2]; exact hr
  · rcases hsplit s' T' p h with ⟨rfl, r, rfl, e⟩ | hp
    · rw [e] at h1; exact hfree r k hh h1 h2
    · obtain ⟨T0, q1, q2⟩ := hold s' T' p h h1 hp
      rw [hρ s' p hp] at h2
      exact m.free s' T0 p k q1 (hH1 s' p hh hp) q2 h2
  · rcases hsplit s1 T1 p1 h1 with ⟨rfl, r1, rfl, e1⟩ | hp1
    · rw [e1] at g1
      rcases hsplit s2 T2 p2 h2 with ⟨rfl, r2, rfl, e2⟩ | hp2
      · rw [e2] at g2
        exact ⟨rfl, by rw [hinj r1 k1 r2 k2 g1 q1 g2 q2 he]⟩
      · obtain ⟨T0, o1, o2⟩ := hold s2 T2 p2 h2 g2 hp2
        rw [hρ s2 p2 hp2] at q2
        exact (hsep r1 k1 s2 T0 p2 k2 g1 q1 o1 (hH1 s2 p2 hh2 hp2) o2 q2 hp2 he).elim
    · obtain ⟨T0, o1, o2⟩ := hold s1 T1 p1 h1 g1 hp1
      rw [hρ s1 p1 hp1] at q1
      rcases hsplit s2 T2 p2 h2 with ⟨rfl, r2, rfl, e2⟩ | hp2
      · rw [e2] at g2
        exact (hsep r2 k2 s1 T0 p1 k1 g2 q2 o1 (hH1 s1 p1 hh1 hp1) o2 q1 hp1 he.symm).elim
      · obtain ⟨T0', o1', o2'⟩ := hold s2 T2 p2 h2 g2 hp2
        rw [hρ s2 p2 hp2] at q2
        exact m.inj s1 T0 p1 k1 s2 T0' p2 k2 o1 (hH1 s1 p1 hh1 hp1) o2 q1 o1' (hH1 s2 p2 hh2 hp2) o2' q2 he
end
end Go.AM
namespace Go.AM
open Go.RowKit (Below)

section
variable {P : Program} {N : Nat} {E : Entry} {st : St} {a : Act} {w w' : World} {I I' : Gh} {ρ ρ' πx : Pl} {mem mem' ext : Nat → Option AV} {H H' : Nat → Path → Prop}

theorem sig1_node {x y : AV} (h : x.sig1 = y.sig1) (hn : y.isNode = true) : x.isNode = true ∧ ((∃ z es es', x = .tr z es ∧ y = .tr z es' ∧ es.length = es'.length) ∨ (∃ z u u', x = .pt z u ∧ y = .pt z u') ∨ ∃ kd m kd' m', x = .mt kd m ∧ y = .mt kd' m') := by
  cases y <;> try (cases hn)
  case tr z es' =>
    cases x <;> simp only [AV.sig1] at h <;> try (cases h; done)
    case tr z' es =>
      simp only [AV.ref.injEq, true_and] at h
      obtain ⟨rfl, h2⟩ := h
      exact ⟨rfl, .inl ⟨_, _, _, rfl, rfl, h2⟩⟩
  case pt z u' =>
    cases x <;> simp only [AV.sig1] at h <;> try (cases h; done)
    case pt z' u =>
      simp only [AV.loc.injEq, true_and, and_true] at h
      subst h
      exact ⟨rfl, .inr (.inl ⟨_, _, _, rfl, rfl⟩)⟩
  case mt kd' m' =>
    cases x <;> simp only [AV.sig1] at h <;> try (cases h; done)
    case mt kd m => exact ⟨rfl, .inr (.inr ⟨_, _, _, _, rfl, rfl⟩)⟩
theorem sig_hdr {x y : AV} {k : Option Plc} {v : Value} (h : x.sig1 = y.sig1) (hn : y.isNode = true) (hd : Hdr k y v) : Hdr k x v := by
  rcases (sig1_node h hn).2 with ⟨z, es, es', rfl, rfl, hl⟩ | ⟨z, u, u', rfl, rfl⟩ | ⟨kd, m, kd', m', rfl, rfl⟩
  · rcases hd with ⟨k', h1, h2, h3, h4⟩ | ⟨h1, h2⟩
    · exact .inl ⟨k', h1, h2, by omega, by rw [hl]; exact h4⟩
    · subst h1; exact .inr ⟨List.eq_nil_of_length_eq_zero hl, h2⟩
  · exact hd
  · exact hd
theorem sig_top {T c : AV} (h : T.sig = c.sig) {r : Path} (hr : TopPos c r) (hn : (c.at r).isNode = true) : TopPos T r ∧ (T.at r).sig1 = (c.at r).sig1 := by
  by_cases hc : ∃ fs, c = .agg fs
  · obtain ⟨fs, rfl⟩ := hc
    obtain ⟨j, rfl⟩ := hr
    have hT : ∃ gs, T = .agg gs ∧ gs.map AV.sig1 = fs.map AV.sig1 := by
      cases T <;> simp only [AV.sig, AV.sig1] at h <;> try (cases h)
      case agg gs => injection h with h; exact ⟨gs, rfl, h⟩
    obtain ⟨gs, rfl, hm⟩ := hT
    refine ⟨⟨j, rfl⟩, ?_⟩
    show (gs.getD j .any).sig1 = (fs.getD j .any).sig1
    have hn : (fs.getD j .any).isNode = true := hn
    by_cases hj : j < fs.length
    · have hl : gs.length = fs.length := by have := congrArg List.length hm; simpa using this
      rw [getD_lt hj, getD_lt (by omega)]
      have := congrArg (fun l : List AV => l[j]?) hm
      simpa [hj, hl ▸ hj] using this
    · rw [getD_ge (by omega)] at hn; cases hn
  · have hcs : c.sig = c.sig1 := by cases c <;> first | rfl | exact absurd ⟨_, rfl⟩ hc
    have hr0 : r = [] := by cases c <;> first | exact hr | exact hr.elim | exact absurd ⟨_, rfl⟩ hc
    subst hr0
    have hn : c.isNode = true := hn
    rw [hcs] at h
    have hTs : T.sig = T.sig1 := by
      cases T <;> first
        | rfl
        | (exfalso
           cases c <;> first | (cases hn; done) | (simp only [AV.sig, AV.sig1] at h; cases h))
    rw [hTs] at h
    refine ⟨?_, h⟩
    have := (sig1_node h hn).1
    cases T <;> first | rfl | cases this

/-- a frame in whose memory there are holes -/
structure Mid (N : Nat) (E : Entry) (st : St) (a : Act) (w : World) (I : Gh) (ρ : Pl) (H : Nat → Path → Prop) : Prop where
  held : Held I w
  below : BelowX E.lent E.w0.heap.size E.w0 w
  keeps : ∀ b o, b < E.w0.heap.size → I b o = E.I0 b o
  size : a.tmps.size = N
  defers : a.defers = []
  fr : ∀ i, Rep I ρ (st.fr i) (a.tmps.getD i undef)
  mem : SepH I ρ w st.mem H
  lo : ∀ b, OwnsH ρ st.mem H b → E.w0.heap.size ≤ b ∨ E.lent b
  fix : ∀ i c T q, E.args[i]? = some c → st.mem i = some T → TopPos T q → ρ i q = E.π0 i q
theorem Mid.conc (m : Mid N E st a w I ρ H) (h : ∀ s p, ¬ H s p) : Conc N E st a w I ρ :=
  ⟨m.held, m.below, m.keeps, m.size, m.defers, m.fr, ⟨fun s T p q => m.mem.row s T p q (h s p), fun s T p k q => m.mem.free s T p k q (h s p), fun s T p k s' T' p' k' q1 q2 q3 q4 => m.mem.inj s T p k s' T' p' k' q1 (h s p) q2 q3 q4 (h s' p')⟩,
    fun b ⟨s, T, p, k, h1, h2, h3, h4⟩ => m.lo b ⟨s, T, p, k, h1, h s p, h2, h3, h4⟩, m.fix⟩

/-- the places that are still lent -/
def HU (L : List Src) (s : Nat) (p : Path) : Prop := ∃ i r q, (i, r, s, q) ∈ L ∧ q <+: p
/-- what is still to be given back, and the result -/
def Rem (n : Nat) (L : List Src) (s : Nat) (p : Path) : Prop := s = n ∨ ∃ r t q, (s, r, t, q) ∈ L ∧ r <+: p
def Apart (ρ : Pl) (mem : Nat → Option AV) (H : Nat → Path → Prop) (πx : Pl) (ext : Nat → Option AV) (n : Nat) (L : List Src) : Prop :=
  ∀ b, OwnsH ρ mem H b → ∀ s T p k, ext s = some T → Rem n L s p → (T.at p).isNode = true → πx s p = some k → k.b ≠ b
def Div (p q : Path) : Prop := ¬ p <+: q ∧ ¬ q <+: p

theorem HU_cons {i t : Nat} {r q : Path} {L : List Src} {s : Nat} {p : Path} (h : ¬ HU L s p) : ¬ HU ((i, r, t, q) :: L) s p ∨ (s = t ∧ q <+: p) := by
  by_cases e : s = t ∧ q <+: p
  · exact .inr e
  · refine .inl ?_
    rintro ⟨i', r', q', h1, h2⟩
    rcases List.mem_cons.1 h1 with h1 | h1
    · cases h1; exact e ⟨rfl, h2⟩
    · exact h ⟨i', r', q', h1, h2⟩
theorem HU_of_cons {x : Src} {L : List Src} {s : Nat} {p : Path} (h : HU L s p) : HU (x :: L) s p := by
  obtain ⟨i', r', q', h1, h2⟩ := h
  exact ⟨i', r', q', List.mem_cons_of_mem _ h1, h2⟩

open Classical in
/-- the places after a tree of another memory has been hung in -/
noncomputable def hangP (ρ : Pl) (t : Nat) (q : Path) (πx : Pl) (i : Nat) (r : Path) : Pl := fun s' p' => if s' = t ∧ q <+: p' then πx i (r ++ p'.drop q.length) else ρ s' p'
theorem hangP_at (ρ : Pl) (t : Nat) (q : Path) (πx : Pl) (i : Nat) (r r' : Path) : hangP ρ t q πx i r t (q ++ r') = πx i (r ++ r') := by
  unfold hangP; rw [if_pos ⟨rfl, r', rfl⟩]; simp
theorem hangP_ne {t : Nat} {q : Path} {i : Nat} {r : Path} {s' : Nat} {p' : Path} (h : s' ≠ t ∨ ¬ q <+: p') : hangP ρ t q πx i r s' p' = ρ s' p' := by
  unfold hangP
  rw [if_neg]
  rintro ⟨h1, h2⟩
  rcases h with h | h
  · exact h h1
  · exact h h2

theorem ownsH_setP {s : Nat} {R x : AV} {Q : Path} (hR : mem s = some R) (hv : ValidP x R Q) (hH : ∀ s' p', ¬ H' s' p' → ¬ H s' p' ∨ (s' = s ∧ Q <+: p')) (hρ : ∀ s' p', (s' ≠ s ∨ ¬ Q <+: p') → ρ' s' p' = ρ s' p') {b : Nat}
    (h : OwnsH ρ' (fun i => if i = s then some (R.setP Q x) else mem i) H' b) : (∃ r k, (x.at r).isNode = true ∧ ρ' s (Q ++ r) = some k ∧ k.b = b) ∨ OwnsH ρ mem H b := by
  obtain ⟨s', T', p, k, h1, h2, h3, h4, h5⟩ := h
  (try simp only at h1)
  by_cases e : s' = s
  · rw [if_pos e] at h1
    cases h1
    subst e
    by_cases hp : Q <+: p
    · obtain ⟨r, rfl⟩ := hp
      rw [at_setP Q R r hv] at h3
      exact .inl ⟨r, k, h3, h4, h5⟩
    · refine .inr ⟨s', R, p, k, hR, (hH s' p h2).resolve_right (fun q => hp q.2), node_setP hv hp h3, ?_, h5⟩
      rw [← hρ s' p (.inr hp)]; exact h4
  · rw [if_neg e] at h1
    refine .inr ⟨s', T', p, k, h1, (hH s' p h2).resolve_right (fun q => e q.1), h3, ?_, h5⟩
    rw [← hρ s' p (.inl e)]; exact h4

theorem belowF_ok {t : Nat} {q : Path} {i : Nat} {r : Path} (hpl : πx i r = ρ t q) (s' : Nat) (p' : Path) (s1 : Nat) (p1 : Path) (h : belowF t q s' p' = some (s1, p1)) : hangP ρ t q πx i r s1 p1 = ρ s' p' := by
  unfold belowF at h
  split at h
  · rename_i e
    subst e
    cases hp : isPref q p' with
    | true =>
      rw [hp] at h
      simp only at h
      obtain ⟨r', rfl⟩ := (prefix_iff q p').1 hp
      cases r' with
      | nil =>
        simp only [List.append_nil, beq_self_eq_true, Option.some.injEq, Prod.mk.injEq] at h
        obtain ⟨rfl, rfl⟩ := h
        have := hangP_at ρ s' q πx i r []
        simp only [List.append_nil] at this ⊢
        rw [this]; exact hpl
      | cons ij r' =>
        have e2 : ((q ++ ij :: r').length == q.length) = false := by simp
        rw [e2] at h; cases h
    | false =>
      rw [hp] at h
      cases h
      exact hangP_ne (.inr (isPref_false.1 hp))
  · rename_i e
    cases h
    exact hangP_ne (.inl e)
theorem div_of_div {p q x : Path} (h : Div p q) (hx : p <+: x) : ¬ q <+: x := by
  intro hq
  rcases Nat.le_total p.length q.length with hl | hl
  · exact h.1 (List.prefix_of_prefix_length_le hx hq hl)
  · exact h.2 (List.prefix_of_prefix_length_le hq hx hl)

theorem rows_up {i t : Nat} {r q : Path} {L : List Src} (m : SepH I ρ w mem (HU ((i, r, t, q) :: L))) (hdiv : ∀ i' r' q', (i', r', t, q') ∈ L → Div q q') {R x : AV} (hR : mem t = some R) (hn : (R.at q).isNode = true) (hx : q ≠ [] → Sing x) : ValidP x R q := by
  have := valid_row (I := I) (ρ := ρ) (w := w) (s := t) (R := R) (x := x) q [] (fun Q' ij Q'' e => by
    refine m.row t R Q' hR ?_
    rintro ⟨i', r', q', h1, h2⟩
    rcases List.mem_cons.1 h1 with h1 | h1
    · cases h1
      have := h2.length_le
      rw [e] at this
      simp at this
      omega
    · have hd := hdiv i' r' q' h1
      exact hd.2 (h2.trans ⟨ij :: Q'', e.symm⟩)) (inP_node hn) hx
  exact this

/-- A LENT TREE COMES BACK -/
theorem give_some {i t n : Nat} {r q : Path} {L : List Src} {T R : AV} {K : St → Prop} (c : Mid N E st a w I ρ (HU ((i, r, t, q) :: L))) (hx : Sep I πx w ext) (hap : Apart ρ st.mem (HU ((i, r, t, q) :: L)) πx ext n ((i, r, t, q) :: L))
    (hT : ext i = some T) (hin : i ≠ n) (hdiv : ∀ i' r' q', (i', r', t, q') ∈ L → Div q q') (hdr : ∀ r' t' q', (i, r', t', q') ∈ L → Div r r') (hR : st.mem t = some R) (hn : (R.at q).isNode = true) (hsig : (T.at r).sig1 = (R.at q).sig1) (hpl : πx i r = ρ t q)
    (hlo : ∀ p k, ((T.at r).at p).isNode = true → πx i (r ++ p) = some k → E.w0.heap.size ≤ k.b ∨ E.lent k.b) (h : giveC t q (T.at r) st K .mk) :
    ∃ st' ρ', K st' ∧ Mid N E st' a w I ρ' (HU L) ∧ Apart ρ' st'.mem (HU L) πx ext n L ∧ (∀ s p, (s ≠ t ∨ ¬ q <+: p) → ρ' s p = ρ s p) ∧ (∀ t' q', (t' ≠ t ∨ Div q q') → (nodeAt st.mem t' q').isNode = true → (nodeAt st'.mem t' q').isNode = true ∧ (nodeAt st'.mem t' q').sig1 = (nodeAt st.mem t' q').sig1) := by
  obtain ⟨hXn, hkind⟩ := sig1_node hsig hn
  have hsx : q ≠ [] → Sing (T.at r) := fun _ => sing_node hXn
  have hv : ValidP (T.at r) R q := rows_up c.mem hdiv hR hn hsx
  let st' : St := { fr := fun j => (st.fr j).mapH (belowF t q), mem := fun j => if j = t then some (R.setP q (T.at r)) else st.mem j }
  have hK : K st' := by
    unfold giveC at h
    cases q with
    | nil => exact h
    | cons ij q => rw [hR] at h; exact h
  have hρ : ∀ s' p', (s' ≠ t ∨ ¬ q <+: p') → hangP ρ t q πx i r s' p' = ρ s' p' := fun s' p' h => hangP_ne h
  have hH : ∀ s' p', ¬ HU L s' p' → ¬ HU ((i, r, t, q) :: L) s' p' ∨ (s' = t ∧ q <+: p') := fun s' p' h => HU_cons h
  have hat0 : hangP ρ t q πx i r t q = ρ t q := by
    have := hangP_at ρ t q πx i r []
    simp only [List.append_nil] at this
    rw [this]; exact hpl
  have hXat : ∀ r', ((T.at r).at r').isNode = true → (T.at (r ++ r')).isNode = true := fun r' h => by rw [at_append]; exact h
  have hrem : ∀ p, Rem n ((i, r, t, q) :: L) i (r ++ p) := fun p => .inr ⟨r, t, q, by simp, List.prefix_append _ _⟩
  have hsep := SepH.setP (ρ' := hangP ρ t q πx i r) (H' := HU L) c.mem hR hv hsx hH
    (fun v h1 hc => by
      rcases hc with ⟨_, hc⟩ | ⟨hc, _⟩
      · rw [hat0]; exact .inl ⟨hXn, sig_hdr hsig hn hc⟩
      · rw [hn] at hc; cases hc)
    hρ
    (fun r' _ => by
      refine node_shift (π := πx i) (p := r ++ r') ?_ (fun r'' => by rw [List.append_assoc, hangP_at, List.append_assoc])
      rw [← at_append]; exact hx.row i T _ hT)
    (fun r' k _ h1 h2 o => by rw [hangP_at] at h2; exact hx.free i T _ k hT (hXat r' h1) h2 o)
    (fun r1 k1 r2 k2 h1 h2 h1' h2' he => by
      rw [hangP_at] at h2 h2'
      exact List.append_cancel_left (hx.inj i T _ k1 i T _ k2 hT (hXat r1 h1) h2 hT (hXat r2 h1') h2' he).2)
    (fun r1 k1 s' T' p' k2 h1 h2 e1 e2 e3 e4 e5 => by
      rw [hangP_at] at h2
      exact hap k2.b ⟨s', T', p', k2, e1, e2, e3, e4, rfl⟩ i T _ k1 hT (hrem r1) (hXat r1 h1) h2)
  refine ⟨st', hangP ρ t q πx i r, hK, ⟨c.held, c.below, c.keeps, c.size, c.defers, fun j => rep_mapH (fun s p s' p' hf => belowF_ok hpl s p s' p' hf) (c.fr j), hsep, fun b hb => ?_, fun j c' T' q' g1 g2 g3 => ?_⟩, fun b hb s T' p k g1 g2 g3 g4 => ?_, hρ, fun t' q' hd hnn => ?_⟩
  · rcases ownsH_setP hR hv hH hρ hb with ⟨r', k, h1, h2, rfl⟩ | hb
    · rw [hangP_at] at h2; exact hlo r' k h1 h2
    · exact c.lo b hb
  · simp only [st'] at g2
    by_cases e : j = t
    · rw [if_pos e] at g2
      cases g2
      subst e
      cases q with
      | nil =>
        have g3 : TopPos (T.at r) q' := g3
        have hq' : q' = [] := by
          revert g3
          generalize T.at r = X at hXn
          intro g3
          cases X <;> first | exact g3 | cases hXn
        subst hq'
        rw [hat0]
        exact c.fix j c' R [] g1 hR (by
          have hn : R.isNode = true := hn
          cases R <;> first | rfl | cases hn)
      | cons ij q =>
        have g4 := topPos_setP (by simp) g3
        have : hangP ρ j (ij :: q) πx i r j q' = ρ j q' := by
          by_cases hp : (ij :: q) <+: q'
          · obtain ⟨r', rfl⟩ := hp
            -- the top place itself
            have : q = [] ∧ r' = [] := by
              cases R with
              | agg fs =>
                obtain ⟨jj, e⟩ := g4
                simp at e
                exact ⟨e.2.1, e.2.2⟩
              | tup fs => exact g4.elim
              | _ => exact absurd g4 (by simp [TopPos])
            obtain ⟨rfl, rfl⟩ := this
            rw [List.append_nil]; exact hat0
          · exact hρ _ _ (.inr hp)
        rw [this]
        exact c.fix j c' R q' g1 hR g4
    · rw [if_neg e] at g2
      rw [hρ j q' (.inl e)]
      exact c.fix j c' T' q' g1 g2 g3
  · rcases ownsH_setP hR hv hH hρ hb with ⟨r', k', h1, h2, rfl⟩ | hb
    · rw [hangP_at] at h2
      intro he
      obtain ⟨x1, x2⟩ := hx.inj s T' p k i T (r ++ r') k' g1 g3 g4 hT (hXat r' h1) h2 he
      rcases g2 with g2 | ⟨r2, t2, q2, g5, g6⟩
      · exact hin (x1.symm.trans g2)
      · subst x1
        exact div_of_div (hdr r2 t2 q2 g5) (List.prefix_append _ r') (x2 ▸ g6)
    · refine hap b hb s T' p k g1 ?_ g3 g4
      rcases g2 with g2 | ⟨r2, t2, q2, g5, g6⟩
      · exact .inl g2
      · exact .inr ⟨r2, t2, q2, List.mem_cons_of_mem _ g5, g6⟩
  · by_cases e : t' = t
    · subst e
      have hd := hd.resolve_left (fun h => h rfl)
      have e1 : nodeAt st'.mem t' q' = (R.setP q (T.at r)).at q' := by simp [nodeAt, st']
      have e2 : nodeAt st.mem t' q' = R.at q' := by simp [nodeAt, hR]
      rw [e2] at hnn
      rw [e1, e2]
      rcases at_setP_ne q R q' hv hd.1 with ⟨h, _⟩ | ⟨ij, Q', hq, _⟩
      · rw [h]; exact ⟨hnn, rfl⟩
      · exact (hd.2 ⟨ij :: Q', hq.symm⟩).elim
    · have e1 : nodeAt st'.mem t' q' = nodeAt st.mem t' q' := by simp [nodeAt, st', e]
      rw [e1]; exact ⟨hnn, rfl⟩
end
end Go.AM
namespace Go.AM
open Go.RowKit (Below)

section
variable {P : Program} {N : Nat} {E : Entry} {st : St} {a : Act} {w w' : World} {I I' J : Gh} {ρ ρ' πx : Pl} {mem mem' ext : Nat → Option AV} {H H' : Nat → Path → Prop}

/-- A LENT TREE IS GONE -/
theorem give_none {i t n : Nat} {r q : Path} {L : List Src} {R : AV} {K : St → Prop} (c : Mid N E st a w I ρ (HU ((i, r, t, q) :: L))) (hap : Apart ρ st.mem (HU ((i, r, t, q) :: L)) πx ext n ((i, r, t, q) :: L))
    (hdiv : ∀ i' r' q', (i', r', t, q') ∈ L → Div q q') (hR : st.mem t = some R) (hn : (R.at q).isNode = true) (h : giveN t q st K .mk) :
    ∃ st', K st' ∧ Mid N E st' a w I ρ (HU L) ∧ Apart ρ st'.mem (HU L) πx ext n L ∧ (∀ t' q', (t' ≠ t ∨ Div q q') → (nodeAt st.mem t' q').isNode = true → (nodeAt st'.mem t' q').isNode = true ∧ (nodeAt st'.mem t' q').sig1 = (nodeAt st.mem t' q').sig1) := by
  have hRem : ∀ s p, Rem n L s p → Rem n ((i, r, t, q) :: L) s p := fun s p g => by
    rcases g with g | ⟨r2, t2, q2, g5, g6⟩
    · exact .inl g
    · exact .inr ⟨r2, t2, q2, List.mem_cons_of_mem _ g5, g6⟩
  cases q with
  | nil =>
    have hm : ∀ s T, (st.del t).mem s = some T → s ≠ t ∧ st.mem s = some T := by
      intro s T h
      simp only [St.del] at h
      split at h
      · cases h
      · rename_i e; exact ⟨e, h⟩
    have hH : ∀ s p, s ≠ t → ¬ HU L s p → ¬ HU ((i, r, t, []) :: L) s p := fun s p e h => (HU_cons h).resolve_right fun q => e q.1
    have hsub : ∀ b, OwnsH ρ (st.del t).mem (HU L) b → OwnsH ρ st.mem (HU ((i, r, t, []) :: L)) b := by
      rintro b ⟨s, T, p, k, h1, h2, h3, h4, h5⟩
      obtain ⟨e, h1⟩ := hm s T h1
      exact ⟨s, T, p, k, h1, hH s p e h2, h3, h4, h5⟩
    refine ⟨st.del t, h, ⟨c.held, c.below, c.keeps, c.size, c.defers, c.fr, ⟨fun s T p h1 h2 => ?_, fun s T p k h1 h2 h3 h4 => ?_, fun s T p k s' T' p' k' h1 h2 h3 h4 h1' h2' h3' h4' he => ?_⟩, fun b hb => c.lo b (hsub b hb), fun j c' T' q' g1 g2 g3 => c.fix j c' T' q' g1 (hm j T' g2).2 g3⟩, fun b hb s T p k g1 g2 g3 g4 => hap b (hsub b hb) s T p k g1 (hRem s p g2) g3 g4, fun t' q' hd hnn => ?_⟩
    · obtain ⟨e, h1⟩ := hm s T h1; exact c.mem.row s T p h1 (hH s p e h2)
    · obtain ⟨e, h1⟩ := hm s T h1; exact c.mem.free s T p k h1 (hH s p e h2) h3 h4
    · obtain ⟨e, h1⟩ := hm s T h1; obtain ⟨e', h1'⟩ := hm s' T' h1'
      exact c.mem.inj s T p k s' T' p' k' h1 (hH s p e h2) h3 h4 h1' (hH s' p' e' h2') h3' h4' he
    · by_cases e : t' = t
      · have hd := hd.resolve_left (fun q => q e)
        exact (hd.1 (List.nil_prefix)).elim
      · have e1 : nodeAt (st.del t).mem t' q' = nodeAt st.mem t' q' := by simp [nodeAt, St.del, e]
        rw [e1]; exact ⟨hnn, rfl⟩
  | cons ij q =>
    have h : optP (st.mem t) (fun R => valP (R.setP (ij :: q) .any) (fun R' => K (st.setMem t R')) .mk) .mk := h
    rw [hR] at h
    have hv : ValidP .any R (ij :: q) := rows_up c.mem hdiv hR hn (fun _ => sing_any)
    have hH : ∀ s' p', ¬ HU L s' p' → ¬ HU ((i, r, t, ij :: q) :: L) s' p' ∨ (s' = t ∧ (ij :: q) <+: p') := fun s' p' h => HU_cons h
    have hno : ∀ r, (AV.at .any r).isNode = true → False := fun r h => by rw [any_at] at h; cases h
    have hsep := SepH.setP (ρ' := ρ) (x := .any) (H' := HU L) c.mem hR hv (fun _ => sing_any) hH (fun v _ _ => .inr ⟨rfl, .any v⟩) (fun _ _ _ => rfl)
      (fun r _ => by rw [any_at]; trivial) (fun r k _ h => (hno r h).elim) (fun r k r' k' h => (hno r h).elim) (fun r k s' T' p' k' h => (hno r h).elim)
    have hsub : ∀ b, OwnsH ρ (st.setMem t (R.setP (ij :: q) .any)).mem (HU L) b → OwnsH ρ st.mem (HU ((i, r, t, ij :: q) :: L)) b := by
      intro b hb
      rcases ownsH_setP (ρ' := ρ) hR hv hH (fun _ _ _ => rfl) hb with ⟨r', k, h1, _⟩ | hb
      · exact (hno r' h1).elim
      · exact hb
    refine ⟨_, h, ⟨c.held, c.below, c.keeps, c.size, c.defers, c.fr, hsep, fun b hb => c.lo b (hsub b hb), fun j c' T' q' g1 g2 g3 => ?_⟩, fun b hb s T p k g1 g2 g3 g4 => hap b (hsub b hb) s T p k g1 (hRem s p g2) g3 g4, fun t' q' hd hnn => ?_⟩
    · simp only [St.setMem] at g2
      by_cases e : j = t
      · rw [if_pos e] at g2
        cases g2
        subst e
        exact c.fix j c' R q' g1 hR (topPos_setP (by simp) g3)
      · rw [if_neg e] at g2
        exact c.fix j c' T' q' g1 g2 g3
    · by_cases e : t' = t
      · subst e
        have hd := hd.resolve_left (fun h => h rfl)
        have e1 : nodeAt (st.setMem t' (R.setP (ij :: q) .any)).mem t' q' = (R.setP (ij :: q) .any).at q' := by simp [nodeAt, St.setMem]
        have e2 : nodeAt st.mem t' q' = R.at q' := by simp [nodeAt, hR]
        rw [e2] at hnn
        rw [e1, e2]
        rcases at_setP_ne (ij :: q) R q' hv hd.1 with ⟨h, _⟩ | ⟨kl, Q', hq, _⟩
        · rw [h]; exact ⟨hnn, rfl⟩
        · exact (hd.2 ⟨kl :: Q', hq.symm⟩).elim
      · have e1 : nodeAt (st.setMem t (R.setP (ij :: q) .any)).mem t' q' = nodeAt st.mem t' q' := by simp [nodeAt, St.setMem, e]
        rw [e1]; exact ⟨hnn, rfl⟩

def R1 (x y : Src) : Prop := y.2.2.1 ≠ x.2.2.1 ∨ Div x.2.2.2 y.2.2.2
def R2 (x y : Src) : Prop := y.1 ≠ x.1 ∨ Div x.2.1 y.2.1
theorem Div.symm {p q : Path} (h : Div p q) : Div q p := ⟨h.2, h.1⟩
theorem R1.symm {x y : Src} (h : R1 x y) : R1 y x := h.imp Ne.symm Div.symm
theorem R2.symm {x y : Src} (h : R2 x y) : R2 y x := h.imp Ne.symm Div.symm
theorem pair_mem {α : Type} {R : α → α → Prop} (hs : ∀ x y, R x y → R y x) : ∀ {l : List α}, l.Pairwise R → ∀ x ∈ l, ∀ y ∈ l, x = y ∨ R x y
  | a :: r, h, x, hx, y, hy => by
    obtain ⟨h1, h2⟩ := List.pairwise_cons.1 h
    rcases List.mem_cons.1 hx with ex | hx2
    · rcases List.mem_cons.1 hy with ey | hy2
      · exact .inl (ex.trans ey.symm)
      · exact .inr (ex ▸ h1 y hy2)
    · rcases List.mem_cons.1 hy with ey | hy2
      · exact .inr (hs _ _ (ey ▸ h1 x hx2))
      · exact pair_mem hs h2 x hx2 y hy2

/-- what is needed of each tree that is to come back -/
structure GiveOk (E : Entry) (πx : Pl) (ext : Nat → Option AV) (n : Nat) (outs : List (Option AV)) (mem : Nat → Option AV) (ρ : Pl) (x : Src) : Prop where
  ne : x.1 ≠ n
  node : (nodeAt mem x.2.2.1 x.2.2.2).isNode = true
  out : ∀ T, outs.getD x.1 none = some T → ext x.1 = some T ∧ (T.at x.2.1).sig1 = (nodeAt mem x.2.2.1 x.2.2.2).sig1 ∧ πx x.1 x.2.1 = ρ x.2.2.1 x.2.2.2 ∧
    ∀ p k, ((T.at x.2.1).at p).isNode = true → πx x.1 (x.2.1 ++ p) = some k → E.w0.heap.size ≤ k.b ∨ E.lent k.b

theorem giveS_sound (hx : Sep I πx w ext) {outs : List (Option AV)} {n : Nat} {K : St → Prop} : ∀ (L : List Src) (st : St) (ρ : Pl), Mid N E st a w I ρ (HU L) → Apart ρ st.mem (HU L) πx ext n L → L.Pairwise R1 → L.Pairwise R2 → (∀ x ∈ L, GiveOk E πx ext n outs st.mem ρ x) → giveS outs L st K →
    ∃ st' ρ', K st' ∧ Mid N E st' a w I ρ' (HU []) ∧ Apart ρ' st'.mem (HU []) πx ext n []
  | [], st, ρ, c, hap, _, _, _, h => ⟨st, ρ, h, c, hap⟩
  | (i, r, t, q) :: L, st, ρ, c, hap, p1, p2, hok, h => by
    obtain ⟨p1h, p1⟩ := List.pairwise_cons.1 p1
    obtain ⟨p2h, p2⟩ := List.pairwise_cons.1 p2
    have hdiv : ∀ i' r' q', (i', r', t, q') ∈ L → Div q q' := fun i' r' q' hm => (p1h _ hm).resolve_left fun h => h rfl
    have hdr : ∀ r' t' q', (i, r', t', q') ∈ L → Div r r' := fun r' t' q' hm => (p2h _ hm).resolve_left fun h => h rfl
    obtain ⟨hne, hnode, hout⟩ := hok _ (List.mem_cons_self ..)
    simp only at hne hnode hout
    obtain ⟨R, hR, hRq⟩ : ∃ R, st.mem t = some R ∧ nodeAt st.mem t q = R.at q := by
      obtain ⟨R, h1, h2⟩ := nodeAt_some (T := nodeAt st.mem t q) rfl hnode
      exact ⟨R, h1, h2.symm⟩
    rw [hRq] at hnode
    unfold giveS at h
    cases ho : outs.getD i none with
    | none =>
      rw [ho] at h
      obtain ⟨st', hK, c', hap', hkeep⟩ := give_none (K := fun st' => giveS outs L st' K) c hap hdiv hR hnode h
      refine giveS_sound hx L st' ρ c' hap' p1 p2 (fun x hxm => ?_) hK
      obtain ⟨q1, q2, q3⟩ := hok x (List.mem_cons_of_mem _ hxm)
      obtain ⟨k1, k2⟩ := hkeep x.2.2.1 x.2.2.2 (p1h x hxm) q2
      exact ⟨q1, k1, fun T hT => by rw [k2]; exact q3 T hT⟩
    | some T =>
      rw [ho] at h
      obtain ⟨h1, h2, h3, h4⟩ := hout T ho
      rw [hRq] at h2
      obtain ⟨st', ρ', hK, c', hap', hρ, hkeep⟩ := give_some (K := fun st' => giveS outs L st' K) c hx hap h1 hne hdiv hdr hR hnode h2 h3 h4 h
      refine giveS_sound hx L st' ρ' c' hap' p1 p2 (fun x hxm => ?_) hK
      obtain ⟨q1, q2, q3⟩ := hok x (List.mem_cons_of_mem _ hxm)
      obtain ⟨k1, k2⟩ := hkeep x.2.2.1 x.2.2.2 (p1h x hxm) q2
      refine ⟨q1, k1, fun T hT => ?_⟩
      rw [k2, hρ x.2.2.1 x.2.2.2 ((p1h x hxm).imp id (fun h => h.1))]
      exact q3 T hT

/-! what is taken -/
def TakeC (mem : Nat → Option AV) (i : Nat) (a : AV) (r : Path) (c : AV) (s : List Src) : Prop :=
  (a.bears = false ∧ c = a ∧ s = []) ∨ ∃ t q, s = [(i, r, t, q)] ∧ c = nodeAt mem t q ∧ c.isNode = true ∧ a = c.atom t q
inductive TakeCs (mem : Nat → Option AV) (i : Nat) : Nat → List AV → List AV → List Src → Prop
  | nil (j : Nat) : TakeCs mem i j [] [] []
  | cons {j : Nat} {x x' : AV} {r l : List AV} {s s' : List Src} (h : TakeC mem i x [(0, j)] x' s) (h' : TakeCs mem i (j + 1) r l s') : TakeCs mem i j (x :: r) (x' :: l) (s ++ s')
def TakeA (mem : Nat → Option AV) (i : Nat) (a c : AV) (s : List Src) : Prop :=
  (∃ fs l, a = .agg fs ∧ c = .agg l ∧ TakeCs mem i 0 fs l s) ∨ (TakeC mem i a [] c s ∧ ∀ fs, a ≠ .agg fs)
inductive TakeAll (mem : Nat → Option AV) : Nat → List AV → List (Option AV) → List Src → Prop
  | nil (i : Nat) : TakeAll mem i [] [] []
  | take {i : Nat} {a c : AV} {r : List AV} {l : List (Option AV)} {s s' : List Src} (h : TakeA mem i a c s) (h' : TakeAll mem (i + 1) r l s') : TakeAll mem i (a :: r) (some c :: l) (s ++ s')
  | skip {i : Nat} {a : AV} {r : List AV} {l : List (Option AV)} {s : List Src} (h' : TakeAll mem (i + 1) r l s) : TakeAll mem i (a :: r) (none :: l) s

theorem takeC_spec {i : Nat} {a : AV} {r : Path} {K : AV → List Src → Prop} (h : takeC mem i a r K .mk) : ∃ c s, K c s ∧ TakeC mem i a r c s := by
  unfold takeC at h
  split at h
  · rename_i t q z o n
    obtain ⟨rfl, h⟩ := h
    unfold takeTr at h
    split at h
    · rename_i z' es hT
      obtain ⟨⟨rfl, rfl⟩, k⟩ := h
      exact ⟨_, _, k, .inr ⟨t, q, rfl, hT.symm, rfl, rfl⟩⟩
    · exact h.elim
  · rename_i t q i' j
    obtain ⟨⟨rfl, rfl⟩, h⟩ := h
    unfold takePt at h
    split at h
    · rename_i z x hT
      exact ⟨_, _, h, .inr ⟨t, q, rfl, hT.symm, rfl, rfl⟩⟩
    · exact h.elim
  · rename_i t q
    unfold takeMt at h
    split at h
    · rename_i kd f hT
      exact ⟨_, _, h, .inr ⟨t, q, rfl, hT.symm, rfl, rfl⟩⟩
    · exact h.elim
  · exact ⟨_, _, h.2, .inl ⟨h.1, rfl, rfl⟩⟩
theorem takeCs_spec {i : Nat} : ∀ (fs : List AV) (j : Nat) {K : List AV → List Src → Prop}, takeCs mem i j fs K → ∃ l s, K l s ∧ TakeCs mem i j fs l s
  | [], j, K, h => ⟨[], [], h, .nil j⟩
  | x :: r, j, K, h => by
    obtain ⟨x', s, h, h1⟩ := takeC_spec h
    obtain ⟨l, s', h, h2⟩ := takeCs_spec r (j + 1) h
    exact ⟨_, _, h, .cons h1 h2⟩
theorem takeA_spec {i : Nat} {a : AV} {K : AV → List Src → Prop} (h : takeA mem i a K) : ∃ c s, K c s ∧ TakeA mem i a c s := by
  by_cases ha : ∃ fs, a = .agg fs
  · obtain ⟨fs, rfl⟩ := ha
    obtain ⟨l, s, h, h1⟩ := takeCs_spec fs 0 h
    exact ⟨_, _, h, .inl ⟨fs, l, rfl, rfl, h1⟩⟩
  · have e : takeA mem i a K = takeC mem i a [] K .mk := by cases a <;> first | rfl | exact absurd ⟨_, rfl⟩ ha
    rw [e] at h
    obtain ⟨c, s, h, h1⟩ := takeC_spec h
    exact ⟨c, s, h, .inr ⟨h1, fun fs e => ha ⟨fs, e⟩⟩⟩
theorem takeAll_spec : ∀ (args : List AV) (i : Nat) (ms : List Bool) {K : List (Option AV) → List Src → Prop}, takeAll mem i ms args K → ∃ l s, K l s ∧ TakeAll mem i args l s
  | [], i, ms, K, h => ⟨[], [], by cases ms <;> exact h, .nil i⟩
  | a :: r, i, [], K, h => by
    obtain ⟨l, s, h, h1⟩ := takeAll_spec r (i + 1) [] h
    exact ⟨_, _, h, .skip h1⟩
  | a :: r, i, true :: ms, K, h => by
    have h : takeA mem i a (fun c s => takeAll mem (i + 1) ms r fun l s' => K (some c :: l) (s ++ s')) := h
    obtain ⟨c, s, h, h1⟩ := takeA_spec h
    obtain ⟨l, s', h, h2⟩ := takeAll_spec r (i + 1) ms h
    exact ⟨_, _, h, .take h1 h2⟩
  | a :: r, i, false :: ms, K, h => by
    obtain ⟨l, s, h, h1⟩ := takeAll_spec r (i + 1) ms h
    exact ⟨_, _, h, .skip h1⟩

theorem TakeCs.src {i : Nat} {j : Nat} {fs l : List AV} {s : List Src} (h : TakeCs mem i j fs l s) : ∀ x ∈ s, ∃ m t q, x = (i, [(0, j + m)], t, q) ∧ l.getD m .any = nodeAt mem t q ∧ (nodeAt mem t q).isNode = true := by
  induction h with
  | nil j => intro x hx; cases hx
  | @cons j x0 x' r l s s' h h' ih =>
    intro x hx
    rcases List.mem_append.1 hx with hx | hx
    · rcases h with ⟨_, _, rfl⟩ | ⟨t, q, rfl, h1, h2, _⟩
      · cases hx
      · simp at hx
        subst hx
        exact ⟨0, t, q, rfl, h1, h1 ▸ h2⟩
    · obtain ⟨m, t, q, rfl, h1, h2⟩ := ih x hx
      refine ⟨m + 1, t, q, by congr 4; omega, ?_, h2⟩
      simpa using h1
theorem TakeCs.pair {i : Nat} {j : Nat} {fs l : List AV} {s : List Src} (h : TakeCs mem i j fs l s) : s.Pairwise R2 := by
  induction h with
  | nil j => exact .nil
  | @cons j x0 x' r l s s' h h' ih =>
    refine List.pairwise_append.2 ⟨?_, ih, fun x hx y hy => ?_⟩
    · rcases h with ⟨_, _, rfl⟩ | ⟨t, q, rfl, _⟩
      · exact .nil
      · exact List.pairwise_singleton _ _
    · rcases h with ⟨_, _, rfl⟩ | ⟨t, q, rfl, _⟩
      · cases hx
      · simp at hx
        subst hx
        obtain ⟨m, t', q', rfl, _⟩ := h'.src y hy
        right
        constructor
        · rintro ⟨r, hr⟩; simp at hr; omega
        · rintro ⟨r, hr⟩; simp at hr; omega
theorem TakeA.src {i : Nat} {a c : AV} {s : List Src} (h : TakeA mem i a c s) : ∀ x ∈ s, ∃ r t q, x = (i, r, t, q) ∧ TopPos c r ∧ c.at r = nodeAt mem t q ∧ (nodeAt mem t q).isNode = true := by
  intro x hx
  rcases h with ⟨fs, l, rfl, rfl, h⟩ | ⟨h, ha⟩
  · obtain ⟨m, t, q, rfl, h1, h2⟩ := h.src x hx
    exact ⟨_, t, q, rfl, ⟨0 + m, rfl⟩, by rw [Nat.zero_add]; exact h1, h2⟩
  · rcases h with ⟨_, _, rfl⟩ | ⟨t, q, rfl, h1, h2, _⟩
    · cases hx
    · simp at hx
      subst hx
      refine ⟨[], t, q, rfl, ?_, h1, h1 ▸ h2⟩
      cases c <;> first | rfl | cases h2
theorem TakeA.pair {i : Nat} {a c : AV} {s : List Src} (h : TakeA mem i a c s) : s.Pairwise R2 := by
  rcases h with ⟨fs, l, rfl, rfl, h⟩ | ⟨h, ha⟩
  · exact h.pair
  · rcases h with ⟨_, _, rfl⟩ | ⟨t, q, rfl, _⟩
    · exact .nil
    · exact List.pairwise_singleton _ _
theorem TakeAll.len {i : Nat} {args : List AV} {l : List (Option AV)} {s : List Src} (h : TakeAll mem i args l s) : l.length = args.length := by
  induction h with
  | nil => rfl
  | take _ _ ih => simp [ih]
  | skip _ ih => simp [ih]
theorem TakeAll.get {i : Nat} {args : List AV} {l : List (Option AV)} {s : List Src} (h : TakeAll mem i args l s) : ∀ m (hm : m < args.length) c, l[m]? = some (some c) → ∃ s', TakeA mem (i + m) (args[m]) c s' ∧ (∀ x ∈ s', x ∈ s) := by
  induction h with
  | nil => intro m hm; cases hm
  | @take i a c0 r l s s' h h' ih =>
    intro m hm c hc
    cases m with
    | zero => simp at hc; subst hc; exact ⟨s, h, fun x hx => List.mem_append_left _ hx⟩
    | succ m =>
      obtain ⟨s2, g1, g2⟩ := ih m (by simpa using hm) c (by simpa using hc)
      refine ⟨s2, ?_, fun x hx => List.mem_append_right _ (g2 x hx)⟩
      have e : i + (m + 1) = i + 1 + m := by omega
      rw [e]; simpa using g1
  | @skip i a r l s h' ih =>
    intro m hm c hc
    cases m with
    | zero => simp at hc
    | succ m =>
      obtain ⟨s2, g1, g2⟩ := ih m (by simpa using hm) c (by simpa using hc)
      refine ⟨s2, ?_, g2⟩
      have e : i + (m + 1) = i + 1 + m := by omega
      rw [e]; simpa using g1
theorem TakeAll.src {i : Nat} {args : List AV} {l : List (Option AV)} {s : List Src} (h : TakeAll mem i args l s) : ∀ x ∈ s, ∃ m c r t q, m < args.length ∧ l[m]? = some (some c) ∧ x = (i + m, r, t, q) ∧ TopPos c r ∧ c.at r = nodeAt mem t q ∧ (nodeAt mem t q).isNode = true := by
  induction h with
  | nil => intro x hx; cases hx
  | @take i a c0 r l s s' h h' ih =>
    intro x hx
    rcases List.mem_append.1 hx with hx | hx
    · obtain ⟨r, t, q, rfl, h1⟩ := h.src x hx
      exact ⟨0, c0, r, t, q, by simp, rfl, rfl, h1⟩
    · obtain ⟨m, c, r, t, q, g1, g2, rfl, g3⟩ := ih x hx
      exact ⟨m + 1, c, r, t, q, by simpa using g1, by simpa using g2, by congr 1; omega, g3⟩
  | @skip i a r l s h' ih =>
    intro x hx
    obtain ⟨m, c, r, t, q, g1, g2, rfl, g3⟩ := ih x hx
    exact ⟨m + 1, c, r, t, q, by simpa using g1, by simpa using g2, by congr 1; omega, g3⟩
theorem TakeAll.pair {i : Nat} {args : List AV} {l : List (Option AV)} {s : List Src} (h : TakeAll mem i args l s) : s.Pairwise R2 := by
  induction h with
  | nil => exact .nil
  | @take i a c0 r l s s' h h' ih =>
    refine List.pairwise_append.2 ⟨h.pair, ih, fun x hx y hy => ?_⟩
    obtain ⟨r, t, q, rfl, _⟩ := h.src x hx
    obtain ⟨m, c, r, t, q, _, _, rfl, _⟩ := h'.src y hy
    left
    show i + 1 + m ≠ i
    omega
  | skip h' ih => exact ih
end
end Go.AM
namespace Go.AM
open Go.RowKit (Below)

section
variable {P : Program} {N : Nat} {E : Entry} {st : St} {a : Act} {w w' : World} {I I' J : Gh} {ρ ρ' πx : Pl} {mem mem' ext : Nat → Option AV} {H H' : Nat → Path → Prop}

theorem TakeCs.len {i j : Nat} {fs l : List AV} {s : List Src} (h : TakeCs mem i j fs l s) : l.length = fs.length := by
  induction h with
  | nil => rfl
  | cons _ _ ih => simp [ih]
theorem TakeCs.get {i j : Nat} {fs l : List AV} {s : List Src} (h : TakeCs mem i j fs l s) : ∀ m (hm : m < fs.length) (hl : m < l.length), ∃ s', TakeC mem i (fs[m]) [(0, j + m)] (l[m]) s' ∧ ∀ x ∈ s', x ∈ s := by
  induction h with
  | nil => intro m hm; cases hm
  | @cons j x0 x' r l s s' h h' ih =>
    intro m hm hl
    cases m with
    | zero => exact ⟨s, h, fun x hx => List.mem_append_left _ hx⟩
    | succ m =>
      obtain ⟨s2, g1, g2⟩ := ih m (by simpa using hm) (by simpa using hl)
      refine ⟨s2, ?_, fun x hx => List.mem_append_right _ (g2 x hx)⟩
      have e : j + (m + 1) = j + 1 + m := by omega
      rw [e]; simpa using g1

theorem node_hdr (m : Sep I ρ w mem) {t : Nat} {q : Path} {c : AV} {v : Value} (hc : c = nodeAt mem t q) (hn : c.isNode = true) (r : Rep J ρ (c.atom t q) v) : Hdr (ρ t q) c v := by
  obtain ⟨R, hR, hRq⟩ := nodeAt_some hc.symm hn
  have hrow := m.row t R q hR
  rw [hRq] at hrow
  cases c <;> try (cases hn)
  case tr z es =>
    rcases rep_ref r with ⟨k, h1, h2, h3, h4⟩ | ⟨h1, x, h2⟩
    · exact .inl ⟨k, h1, h2, by omega, by simpa using h4⟩
    · exact .inr ⟨List.eq_nil_of_length_eq_zero h1, x, h2⟩
  case pt z x =>
    obtain ⟨k, h1, h2⟩ := rep_loc r
    rcases hrow with ⟨_, h⟩ | ⟨k', Et, arr, g1, g2, g3, _⟩
    · cases h
    · rw [h1] at g1; cases g1
      exact ⟨k, h1, g2, by simpa using g3, by simpa using h2⟩
  case mt kd f =>
    obtain ⟨k, h1, h2⟩ := rep_mref r
    exact ⟨k, h1, h2⟩
theorem TakeC.cell {i : Nat} {x c : AV} {r : Path} {s : List Src} {v : Value} (m : Sep I ρ w mem) (h : TakeC mem i x r c s) (hr : Rep J ρ x v) {π : Path → Option Plc} (hπ : ∀ t q, (i, r, t, q) ∈ s → π r = ρ t q) : CellOk J (π r) c v := by
  rcases h with ⟨h1, rfl, rfl⟩ | ⟨t, q, rfl, h1, h2, rfl⟩
  · exact rs_cell (nb_stat hr h1) _
  · rw [hπ t q (by simp)]
    exact .inl ⟨h2, node_hdr m h1 h2 hr⟩
theorem TakeA.top {i : Nat} {x c : AV} {s : List Src} {v : Value} (m : Sep I ρ w mem) (h : TakeA mem i x c s) (hr : Rep J ρ x v) {π : Path → Option Plc} (hπ : ∀ r t q, (i, r, t, q) ∈ s → π r = ρ t q) : TopOk J π [] c v := by
  rcases h with ⟨fs, l, rfl, rfl, h⟩ | ⟨h, ha⟩
  · obtain ⟨arr, rfl, h1, h2⟩ := rep_agg hr
    refine ⟨arr, rfl, h1.trans h.len.symm, fun j hj hk => ?_⟩
    have hj' : j < fs.length := by rw [← h.len]; exact hj
    obtain ⟨s', g1, g2⟩ := h.get j hj' hj
    rw [Nat.zero_add] at g1
    exact g1.cell m (h2 j hj' hk) (fun t q hm => hπ _ t q (g2 _ hm))
  · rcases h with ⟨h1, rfl, rfl⟩ | ⟨t, q, rfl, h1, h2, rfl⟩
    · exact rs_top (nb_stat hr h1) _ _
    · have hc : CellOk J (π []) c v := by
        rw [hπ [] t q (by simp)]
        exact .inl ⟨h2, node_hdr m h1 h2 hr⟩
      cases c <;> first | exact hc | cases h2
theorem TakeA.cov {i : Nat} {x c : AV} {s : List Src} {v : Value} (h : TakeA mem i x c s) (hr : Rep J ρ x v) {p : Path} (hp : (c.at p).isNode = true) : ∃ r t q p', (i, r, t, q) ∈ s ∧ p = r ++ p' ∧ c.at p = (nodeAt mem t q).at p' := by
  rcases h with ⟨fs, l, rfl, rfl, h⟩ | ⟨h, ha⟩
  · cases p with
    | nil => cases hp
    | cons ij p =>
      obtain ⟨i0, m⟩ := ij
      have hp : (AV.at ((AV.agg l).cellAt i0 m) p).isNode = true := hp
      cases i0 with
      | succ i0 => have e : (AV.agg l).cellAt (i0 + 1) m = .any := rfl
                   rw [e, any_at] at hp; cases hp
      | zero =>
        have e : (AV.agg l).cellAt 0 m = l.getD m .any := rfl
        rw [e] at hp
        by_cases hm : m < l.length
        · rw [getD_lt hm] at hp
          have hm' : m < fs.length := by rw [← h.len]; exact hm
          obtain ⟨arr, rfl, h1, h2⟩ := rep_agg hr
          obtain ⟨s', g1, g2⟩ := h.get m hm' hm
          rw [Nat.zero_add] at g1
          rcases g1 with ⟨g3, g4, _⟩ | ⟨t, q, rfl, g3, _⟩
          · rw [g4] at hp
            rw [rs_at (nb_stat (h2 m hm' (by omega)) g3) p] at hp; cases hp
          · refine ⟨[(0, m)], t, q, p, g2 _ (by simp), rfl, ?_⟩
            show AV.at ((AV.agg l).cellAt 0 m) p = _
            rw [e, getD_lt hm, g3]
        · rw [getD_ge (by omega), any_at] at hp; cases hp
  · rcases h with ⟨h1, rfl, rfl⟩ | ⟨t, q, rfl, h1, h2, rfl⟩
    · rw [rs_at (nb_stat hr h1) p] at hp; cases hp
    · exact ⟨[], t, q, p, by simp, rfl, by rw [h1]⟩

/-- the places of what is lent -/
def lendP (ρ : Pl) : List Src → Pl
  | [], _, _ => none
  | (i, r, t, q) :: s, i', p => if i' = i ∧ isPref r p = true then ρ t (q ++ p.drop r.length) else lendP ρ s i' p
theorem lendP_at : ∀ {s : List Src} (_ : s.Pairwise R2) {i t : Nat} {r q : Path} (_ : (i, r, t, q) ∈ s) (p : Path), lendP ρ s i (r ++ p) = ρ t (q ++ p)
  | (i0, r0, t0, q0) :: s, h, i, t, r, q, hm, p => by
    obtain ⟨h1, h2⟩ := List.pairwise_cons.1 h
    unfold lendP
    rcases List.mem_cons.1 hm with e | hm2
    · cases e
      rw [if_pos ⟨rfl, (prefix_iff _ _).2 ⟨p, rfl⟩⟩]; simp
    · rw [if_neg]
      · exact lendP_at h2 hm2 p
      · rintro ⟨ei, hp⟩
        rcases h1 _ hm2 with h3 | h3
        · exact h3 ei
        · obtain ⟨p2, hp2⟩ := (prefix_iff _ _).1 hp
          exact div_of_div h3.symm (List.prefix_append r p) ⟨p2, hp2.symm⟩
theorem args_len (mem : Nat → Option AV) : ∀ (l : List (Option AV)) (args : List AV), l.length = args.length → (argsOf mem l args).length = args.length
  | [], [], _ => rfl
  | some c :: l, a :: r, h => by simp [argsOf, args_len mem l r (by simpa using h)]
  | none :: l, a :: r, h => by simp [argsOf, args_len mem l r (by simpa using h)]
  | [], a :: r, h => by simp at h
  | some c :: l, [], h => by simp at h
  | none :: l, [], h => by simp at h
theorem args_get (mem : Nat → Option AV) : ∀ (l : List (Option AV)) (args : List AV) (m : Nat) (h : m < (argsOf mem l args).length) (h' : m < args.length), (∃ c, l[m]? = some (some c) ∧ (argsOf mem l args)[m] = c) ∨ (l[m]? = some none ∧ (argsOf mem l args)[m] = (args[m]).view mem)
  | some c :: l, a :: r, 0, _, _ => .inl ⟨c, rfl, rfl⟩
  | none :: l, a :: r, 0, _, _ => .inr ⟨rfl, rfl⟩
  | some c :: l, a :: r, m + 1, h, h' => by
    have := args_get mem l r m (by simpa [argsOf] using h) (by simpa using h')
    simpa [argsOf] using this
  | none :: l, a :: r, m + 1, h, h' => by
    have := args_get mem l r m (by simpa [argsOf] using h) (by simpa using h')
    simpa [argsOf] using this
  | [], a :: r, m, h, _ => by cases m <;> simp [argsOf] at h
  | _, [], m, _, h' => by cases h'
theorem lentOf_get : ∀ (l : List (Option AV)) (args : List AV), lentOf l args = false → ∀ m (hm : m < args.length), l[m]? = some none → (args[m]).bears = false
  | some c :: l, a :: r, h, m, hm, hl => by
    cases m with
    | zero => cases hl
    | succ m => exact lentOf_get l r h m (by simpa using hm) (by simpa using hl)
  | none :: l, a :: r, h, m, hm, hl => by
    simp only [lentOf, Bool.or_eq_false_iff] at h
    cases m with
    | zero => exact h.1
    | succ m => exact lentOf_get l r h.2 m (by simpa using hm) (by simpa using hl)
  | [], a :: r, h, m, hm, hl => by simp at hl
  | l, [], h, m, hm, hl => by cases hm
theorem pureO_get : ∀ (outs : List (Option AV)), pureO outs = true → ∀ (i : Nat) (T : AV), outs[i]? = some (some T) → T.pure = true
  | some T0 :: r, h, i, T, hT => by
    simp only [pureO, Bool.and_eq_true] at h
    cases i with
    | zero => simp at hT; subst hT; exact h.1
    | succ i => exact pureO_get r h.2 i T (by simpa using hT)
  | none :: r, h, i, T, hT => by
    simp only [pureO] at h
    cases i with
    | zero => simp at hT
    | succ i => exact pureO_get r h i T (by simpa using hT)
  | [], h, i, T, hT => by simp at hT
theorem divB_spec : ∀ (p q : Path), divB p q = true → Div p q
  | a :: p, b :: q, h => by
    simp only [divB, Bool.or_eq_true, Bool.not_eq_true', decide_eq_false_iff_not] at h
    rcases h with h | h
    · have hab : a ≠ b := fun e => h (by rw [e]; exact ⟨rfl, rfl⟩)
      constructor
      · intro hp; exact hab (List.cons_prefix_cons.1 hp).1
      · intro hp; exact hab (List.cons_prefix_cons.1 hp).1.symm
    · have := divB_spec p q h
      constructor
      · intro hp; exact this.1 (List.cons_prefix_cons.1 hp).2
      · intro hp; exact this.2 (List.cons_prefix_cons.1 hp).2
  | [], _, h => by simp [divB] at h
  | _ :: _, [], h => by simp [divB] at h
theorem apart1_spec (t : Nat) (q : Path) : ∀ (s : List Src), apart1 t q (placesOf s) = true → ∀ x ∈ s, x.2.2.1 ≠ t ∨ Div q x.2.2.2
  | (i, r, t', q') :: s, h, x, hx => by
    simp only [placesOf, apart1, Bool.and_eq_true, Bool.or_eq_true, Bool.not_eq_true', decide_eq_false_iff_not] at h
    rcases List.mem_cons.1 hx with rfl | hx
    · rcases h.1 with h | h
      · exact .inl (Ne.symm h)
      · exact .inr (divB_spec _ _ h)
    · exact apart1_spec t q s h.2 x hx
theorem apart_spec : ∀ (s : List Src), apartL (placesOf s) = true → s.Pairwise R1
  | [], _ => .nil
  | (i, r, t, q) :: s, h => by
    simp only [placesOf, apartL, Bool.and_eq_true] at h
    exact List.pairwise_cons.2 ⟨fun x hx => apart1_spec t q s h.1 x hx, apart_spec s h.2⟩
theorem roots_mem : ∀ (s : List Src) {i t : Nat} {r q : Path}, (i, r, t, q) ∈ s → (rootsOf s).contains t = true
  | (i0, r0, t0, q0) :: s, i, t, r, q, h => by
    rcases List.mem_cons.1 h with e | h
    · cases e; simp [rootsOf]
    · have := roots_mem s h
      simp only [rootsOf, List.contains_cons, Bool.or_eq_true]
      exact .inr this

/-- a tree whose blocks nothing else owns gets a number -/
theorem Conc.setAny (c : Conc N E st a w I ρ) {d : Nat} {T : AV} {π : Path → Option Plc} (hd : ρ d = π) (hno : st.mem d = none) (hnp : E.args[d]? = none) (hT : Sep I (fun _ => π) w (fun i => if i = 0 then some T else none))
    (hdis : ∀ p k, (T.at p).isNode = true → π p = some k → ¬ Owns ρ st.mem k.b) (hlo : ∀ p k, (T.at p).isNode = true → π p = some k → E.w0.heap.size ≤ k.b ∨ E.lent k.b) : Conc N E (st.setMem d T) a w I ρ := by
  subst hd
  have hm : ∀ {s T'}, (st.setMem d T).mem s = some T' → (s = d ∧ T' = T) ∨ (s ≠ d ∧ st.mem s = some T') := by
    intro s T' h
    simp only [St.setMem] at h
    split at h
    · rename_i e; cases h; exact .inl ⟨e, rfl⟩
    · rename_i e; exact .inr ⟨e, h⟩
  have h00 : (fun i => if i = 0 then some T else none : Nat → Option AV) 0 = some T := rfl
  refine ⟨c.held, c.below, c.keeps, c.size, c.defers, c.fr, ⟨fun s T' p h => ?_, fun s T' p k h h1 h2 => ?_, fun s T1 p k s' T2 p' k' h h1 h2 h' h1' h2' he => ?_⟩, fun b hb => ?_, fun i c' T' q h1 hT' h3 => ?_⟩
  · rcases hm h with ⟨rfl, rfl⟩ | ⟨_, h⟩
    · exact hT.row 0 _ p h00
    · exact c.mem.row s T' p h
  · rcases hm h with ⟨rfl, rfl⟩ | ⟨_, h⟩
    · exact hT.free 0 _ p k h00 h1 h2
    · exact c.mem.free s T' p k h h1 h2
  · rcases hm h with ⟨rfl, rfl⟩ | ⟨hne, h⟩
    · rcases hm h' with ⟨rfl, rfl⟩ | ⟨hne', h'⟩
      · exact ⟨rfl, (hT.inj 0 _ p k 0 _ p' k' h00 h1 h2 h00 h1' h2' he).2⟩
      · exact (hdis p k h1 h2 ⟨s', T2, p', k', h', h1', h2', he.symm⟩).elim
    · have h5 := h
      rcases hm h' with ⟨rfl, rfl⟩ | ⟨hne', h'⟩
      · exact (hdis p' k' h1' h2' ⟨s, T1, p, k, h5, h1, h2, he⟩).elim
      · exact c.mem.inj s T1 p k s' T2 p' k' h5 h1 h2 h' h1' h2' he
  · obtain ⟨s, T', p, k, h1, h2, h3, rfl⟩ := hb
    rcases hm h1 with ⟨rfl, rfl⟩ | ⟨_, h1⟩
    · exact hlo p k h2 h3
    · exact c.lo k.b ⟨s, T', p, k, h1, h2, h3, rfl⟩
  · rcases hm hT' with ⟨rfl, rfl⟩ | ⟨_, h⟩
    · rw [hnp] at h1; cases h1
    · exact c.fix i c' T' q h1 h h3

/-- A CALL THAT IS LENT TREES -/
theorem callX_sound (c : Conc N E st a w I ρ) {d : Option Nat} (hd : ∀ t, d = some t → t < N) (hnp : ∀ t, d = some t → E.args[t]? = none) {f : FuncId} {args : List AV} {l : List (Option AV)} {s : List Src} {vals : Array Value} {K : St → Prop}
    (ht : TakeAll st.mem 0 args l s) (hap : apartL (placesOf s) = true) (hn : vals.size = args.length) (hr : ∀ j (hj : j < args.length) (hk : j < vals.size), Rep I ρ (args[j]) (vals[j]))
    (h : callX P st d f s (argsOf (hideM (rootsOf s) st.mem) l args) (lentOf l args) K .mk .mk) :
    HasBody P f ∧ Calls P f vals w fun e w' => ∃ x, e = .returned x ∧ ∃ st', K st' ∧ CC N E st' (a.put d x) w' := by
  obtain ⟨outs, r, ⟨hbody, holen, hosig, hspec⟩, hl, hgive⟩ := h
  refine ⟨hbody, ?_⟩
  have hp1 := apart_spec s hap
  have hp2 := ht.pair
  have hlen := args_len (hideM (rootsOf s) st.mem) l args ht.len
  have hget := args_get (hideM (rootsOf s) st.mem) l args
  generalize hA : argsOf (hideM (rootsOf s) st.mem) l args = A at hlen hget hosig hspec holen
  -- what is hidden
  have hhide : ∀ s0 T, hideM (rootsOf s) st.mem s0 = some T → st.mem s0 = some T ∧ (rootsOf s).contains s0 = false := by
    intro s0 T h
    unfold hideM at h
    split at h
    · cases h
    · rename_i e; exact ⟨h, e⟩
  have hmh : Sep I ρ w (hideM (rootsOf s) st.mem) := c.mem.sub fun s0 T h => ⟨(hhide s0 T h).1, rfl⟩
  -- the ghost that the callee is shown
  obtain ⟨J, hJ, hle, hJfree, hreps, hcase⟩ : ∃ J, Held J w ∧ (∀ b o x, I b o = some x → J b o = some x) ∧ (∀ i r t q p k R, (i, r, t, q) ∈ s → st.mem t = some R → (R.at p).isNode = true → ρ t p = some k → ∀ o, J k.b o = none) ∧
      (∀ j (hj : j < args.length) (hk : j < vals.size), l[j]? = some none → RepS J ((args[j]).view (hideM (rootsOf s) st.mem)) (vals[j])) ∧ (J = I ∨ (r.pure = true ∧ pureO outs = true)) := by
    cases hb : lentOf l args with
    | false =>
      exact ⟨I, c.held, fun _ _ _ h => h, fun i r t q p k R _ h2 h3 h4 o => c.mem.free t R p k h2 h3 h4 o, fun j hj hk hlj => rs_view _ (nb_stat (hr j hj hk) (lentOf_get l args hb j hj hlj)), .inl rfl⟩
    | true =>
      refine ⟨lend I ρ (hideM (rootsOf s) st.mem) w, lend_held hmh c.held, lend_le hmh, fun i r t q p k R h1 h2 h3 h4 o => ?_, fun j hj hk _ => view_sound hmh (hr j hj hk), .inr (by rcases hl with q | q; rw [hb] at q; cases q; exact q)⟩
      rw [lend_not, c.mem.free t R p k h2 h3 h4 o]
      rintro ⟨s0, T0, p0, k0, g1, g2, g3, g4⟩
      obtain ⟨g1, g5⟩ := hhide s0 T0 g1
      obtain ⟨rfl, _⟩ := c.mem.inj s0 T0 p0 k0 t R p k g1 g2 g3 h2 h3 h4 g4
      rw [roots_mem s h1] at g5; cases g5
  -- a node among the arguments
  have hnodes : ∀ i T p, A[i]? = some T → (T.at p).isNode = true → ∃ r t q p' R, (i, r, t, q) ∈ s ∧ p = r ++ p' ∧ st.mem t = some R ∧ T.at p = R.at (q ++ p') ∧ lendP ρ s i p = ρ t (q ++ p') := by
    intro i T p hi hnp
    obtain ⟨hlt, rfl⟩ := List.getElem?_eq_some_iff.1 hi
    have hj : i < args.length := by omega
    rcases hget i (by omega) hj with ⟨c', g1, g2⟩ | ⟨g1, g2⟩
    · obtain ⟨s', g3, g4⟩ := ht.get i hj c' g1
      rw [Nat.zero_add] at g3
      rw [g2] at hnp ⊢
      obtain ⟨r', t, q, p', g5, g6, g7⟩ := g3.cov (hr i hj (by omega)) hnp
      rw [g7] at hnp
      have hm := g4 _ g5
      obtain ⟨m, c2, r2, t2, q2, _, _, he, _, _, hnn⟩ := ht.src _ hm
      cases he
      obtain ⟨R, hR, hRq⟩ := nodeAt_some (T := nodeAt st.mem t q) rfl hnn
      refine ⟨r', t, q, p', R, hm, g6, hR, by rw [g7, at_append, hRq], ?_⟩
      rw [g6]; exact lendP_at hp2 hm p'
    · rw [g2] at hnp
      rw [rs_at (hreps i hj (by omega) g1) p] at hnp; cases hnp
  -- two of them that share a block are one
  have hsame : ∀ i r t q p' R i2 r2 t2 q2 p2' R2' k k2, (i, r, t, q) ∈ s → st.mem t = some R → (R.at (q ++ p')).isNode = true → ρ t (q ++ p') = some k → (i2, r2, t2, q2) ∈ s → st.mem t2 = some R2' → (R2'.at (q2 ++ p2')).isNode = true → ρ t2 (q2 ++ p2') = some k2 → k.b = k2.b → i = i2 ∧ r ++ p' = r2 ++ p2' := by
    intro i r t q p' R i2 r2 t2 q2 p2' R2' k k2 h1 h2 h3 h4 h1' h2' h3' h4' he
    obtain ⟨x1, x2⟩ := c.mem.inj t R _ k t2 R2' _ k2 h2 h3 h4 h2' h3' h4' he
    rcases pair_mem (fun _ _ => R1.symm) hp1 _ h1 _ h1' with e | e
    · cases e
      exact ⟨rfl, by rw [List.append_cancel_left x2]⟩
    · rcases e with e | e
      · exact (e x1.symm).elim
      · exact (div_of_div e (List.prefix_append q p') (x2 ▸ List.prefix_append q2 p2')).elim
  have hsepA : Sep J (lendP ρ s) w (fun i => A[i]?) := by
    refine ⟨fun i T p hi => ?_, fun i T p k hi h1 h2 o => ?_, fun i T p k i2 T2 p2 k2 hi h1 h2 hi2 h1' h2' he => ?_⟩
    · cases hnn : (T.at p).isNode with
      | false => exact node_false hnn
      | true =>
        obtain ⟨r', t, q, p', R, g1, rfl, g3, g4, g5⟩ := hnodes i T p hi hnn
        have hrow := c.mem.row t R (q ++ p') g3
        rw [← g4] at hrow
        refine node_shift (NodeOk.mono (w' := w) hle (fun _ _ _ => rfl) hrow) (fun r2 => ?_)
        rw [List.append_assoc, lendP_at hp2 g1, List.append_assoc]
    · obtain ⟨r', t, q, p', R, g1, rfl, g3, g4, g5⟩ := hnodes i T p hi h1
      rw [g4] at h1
      exact hJfree i r' t q _ k R g1 g3 h1 (g5 ▸ h2) o
    · obtain ⟨r', t, q, p', R, g1, rfl, g3, g4, g5⟩ := hnodes i T p hi h1
      obtain ⟨r2', t2, q2, p2', R2', g1', rfl, g3', g4', g5'⟩ := hnodes i2 T2 p2 hi2 h1'
      rw [g4] at h1; rw [g4'] at h1'
      exact hsame i r' t q p' R i2 r2' t2 q2 p2' R2' k k2 g1 g3 h1 (g5 ▸ h2) g1' g3' h1' (g5' ▸ h2') he
  have hownA : ∀ b, Owns (lendP ρ s) (fun i => A[i]?) b → ∃ i r t q p' R k, (i, r, t, q) ∈ s ∧ st.mem t = some R ∧ (R.at (q ++ p')).isNode = true ∧ ρ t (q ++ p') = some k ∧ k.b = b := by
    rintro b ⟨i, T, p, k, h1, h2, h3, rfl⟩
    obtain ⟨r', t, q, p', R, g1, rfl, g3, g4, g5⟩ := hnodes i T p h1 h2
    exact ⟨i, r', t, q, p', R, k, g1, g3, g4 ▸ h2, g5 ▸ h3, rfl⟩
  have hownlo : ∀ b, Owns (lendP ρ s) (fun i => A[i]?) b → E.w0.heap.size ≤ b ∨ E.lent b := by
    intro b hb
    obtain ⟨i, r', t, q, p', R, k, _, g1, g2, g3, rfl⟩ := hownA b hb
    exact c.lo _ ⟨t, R, _, k, g1, g2, g3, rfl⟩
  refine (hspec J (lendP ρ s) w vals hJ (by omega) hsepA fun j hj hk => ?_).mono ?_
  · have hj' : j < args.length := by omega
    rcases hget j hj hj' with ⟨c', g1, g2⟩ | ⟨g1, g2⟩
    · obtain ⟨s', g3, g4⟩ := ht.get j hj' c' g1
      rw [Nat.zero_add] at g3
      rw [g2]
      exact g3.top c.mem ((hr j hj' hk).mono hle) fun r' t q hm => by
        have := lendP_at (ρ := ρ) hp2 (g4 _ hm) []
        simpa using this
    · rw [g2]; exact rs_top (hreps j hj' hk g1) _ _
  · rintro e w' ⟨I1, π1, x, rfl, hI1, hs1, ht1, hfix, hb1, hk1, hnew⟩
    refine ⟨x, rfl, ?_⟩
    have hheld : ∀ b o y, I b o = some y → w'.heap[b]? = w.heap[b]? := by
      intro b o y hy
      refine hb1.block b (c.held.lt hy) fun hb => ?_
      obtain ⟨i, r', t, q, p', R, k, _, g1, g2, g3, rfl⟩ := hownA b hb
      rw [c.mem.free t R _ k g1 g2 g3 o] at hy; cases hy
    -- the same, over I
    obtain ⟨I2, hI2, hk2, s2, t2⟩ : ∃ I2, Held I2 w' ∧ (∀ b o, b < w.heap.size → I2 b o = I b o) ∧ Sep I2 π1 w' (outMem A.length outs r) ∧ TopOk I2 (π1 A.length) [] r x := by
      rcases hcase with rfl | ⟨hp, hpo⟩
      · exact ⟨I1, hI1, hk1, hs1, ht1⟩
      · refine ⟨I, ⟨fun b o y hy => ?_, fun b cs h => by obtain ⟨t, f, x, h1, h2⟩ := c.held.base b cs h; exact ⟨t, f, x, (hheld b 0 x h2).trans h1, h2⟩⟩, fun _ _ _ => rfl, pure_sep hs1 ?_ ?_, pure_top ht1 hp⟩
        · have := c.held.cell b o y hy
          exact ⟨(World.cell?_of_block (w := w) (a := ⟨b, o, none⟩) (hheld b o y hy)).trans this.1, this.2⟩
        · intro i T hs
          simp only [outMem] at hs
          split at hs
          · cases hs; exact hp
          · exact pureO_get outs hpo i T (by
              cases ho : outs[i]? with
              | none => rw [ho] at hs; cases hs
              | some o => rw [ho] at hs; simp at hs; rw [hs])
        · intro b hb o
          rcases hnew b hb with q | q
          · obtain ⟨i, r', t, q, p', R, k, _, g1, g2, g3, rfl⟩ := hownA b q
            exact c.mem.free t R _ k g1 g2 g3 o
          · cases hx : I b o with
            | none => rfl
            | some y => have := c.held.lt hx; omega
    have hle2 : ∀ b o y, I b o = some y → I2 b o = some y := fun b o y hy => (hk2 b o (c.held.lt hy)).trans hy
    have hfresh : ∀ s0 T0 p0 k0, st.mem s0 = some T0 → ¬ HU s s0 p0 → (T0.at p0).isNode = true → ρ s0 p0 = some k0 → ¬ Owns (lendP ρ s) (fun i => A[i]?) k0.b := by
      intro s0 T0 p0 k0 h1 h2 h3 h4 h5
      obtain ⟨i, r', t, q, p', R, k, g0, g1, g2, g3, g4⟩ := hownA _ h5
      obtain ⟨x1, x2⟩ := c.mem.inj s0 T0 p0 k0 t R _ k h1 h3 h4 g1 g2 g3 g4.symm
      subst x1
      exact h2 ⟨i, r', q, g0, x2 ▸ List.prefix_append _ _⟩
    have hmid : Mid N E st a w' I2 ρ (HU s) := by
      refine ⟨hI2, c.below.trans (hb1.mono c.below.size fun k hk hq => ?_), fun b o hb => (hk2 b o (Nat.lt_of_lt_of_le hb c.below.size)).trans (c.keeps b o hb), c.size, c.defers, fun i => (c.fr i).mono hle2,
        ⟨fun s0 T0 p0 h1 h2 => ?_, fun s0 T0 p0 k0 h1 h2 h3 h4 o => ?_, fun s0 T0 p0 k0 s1 T1 p1 k1 h1 _ h3 h4 h1' _ h3' h4' he => c.mem.inj s0 T0 p0 k0 s1 T1 p1 k1 h1 h3 h4 h1' h3' h4' he⟩, ?_, c.fix⟩
      · rcases hownlo k hq with h | h
        · omega
        · exact h
      · exact NodeOk.mono hle2 (fun k hk1 hk2 => hb1.block k.b (c.mem.lt h1 hk1 hk2) (hfresh s0 T0 p0 k h1 h2 hk1 hk2)) (c.mem.row s0 T0 p0 h1)
      · rw [hk2 k0.b o (c.mem.lt h1 h3 h4)]; exact c.mem.free s0 T0 p0 k0 h1 h3 h4 o
      · rintro b ⟨s0, T0, p0, k0, h1, _, h3, h4, h5⟩
        exact c.lo b ⟨s0, T0, p0, k0, h1, h3, h4, h5⟩
    have hapart : Apart ρ st.mem (HU s) π1 (outMem A.length outs r) A.length s := by
      rintro b ⟨s0, T0, p0, k0, h1, h2, h3, h4, rfl⟩ s' T' p' k' g1 _ g3 g4 he
      rcases hnew k'.b ⟨s', T', p', k', g1, g3, g4, rfl⟩ with q | q
      · rw [he] at q; exact hfresh s0 T0 p0 k0 h1 h2 h3 h4 q
      · have := c.mem.lt h1 h3 h4; omega
    have hnlo : ∀ s' T' p' k', outMem A.length outs r s' = some T' → (T'.at p').isNode = true → π1 s' p' = some k' → E.w0.heap.size ≤ k'.b ∨ E.lent k'.b := by
      intro s' T' p' k' g1 g2 g3
      rcases hnew k'.b ⟨s', T', p', k', g1, g2, g3, rfl⟩ with q | q
      · exact hownlo _ q
      · exact .inl (Nat.le_trans c.below.size q)
    obtain ⟨st', ρ', hK, hmid', hap'⟩ := giveS_sound s2 s st ρ hmid hapart hp1 hp2 (fun y hy => by
      obtain ⟨m, c', r', t, q, g1, g2, rfl, g3, g4, g5⟩ := ht.src y hy
      simp only [Nat.zero_add] at *
      refine ⟨by show m ≠ A.length; omega, g5, fun T hT => ?_⟩
      simp only at hT ⊢
      have ho : outs[m]? = some (some T) := by
        cases ho : outs[m]? with
        | none => simp [List.getD, ho] at hT
        | some o => simp [List.getD, ho] at hT; rw [hT]
      have hA1 : A.getD m .any = c' := by
        rcases hget m (by omega) g1 with ⟨c2, q1, q2⟩ | ⟨q1, q2⟩
        · rw [g2] at q1; cases q1
          rw [getD_lt (by omega)]; exact q2
        · rw [g2] at q1; cases q1
      have hsig := hosig m T ho
      rw [hA1] at hsig
      obtain ⟨hpos, hsig1⟩ := sig_top hsig g3 (g4 ▸ g5)
      have hext : outMem A.length outs r m = some T := by
        unfold outMem
        rw [if_neg (by omega), ho]; rfl
      refine ⟨hext, by rw [hsig1, g4], ?_, fun p k q1 q2 => hnlo m T _ k hext (by rw [at_append]; exact q1) q2⟩
      rw [hfix m T ho r' hpos]
      have := lendP_at (ρ := ρ) hp2 hy []
      simpa using this) hgive
    have c2 : Conc N E st' a w' I2 ρ' := hmid'.conc fun s0 p0 ⟨i, r', q, h, _⟩ => by cases h
    have hext : outMem A.length outs r A.length = some r := by simp [outMem]
    cases hnb : r.nodeB with
    | false =>
      rw [hnb] at hK
      exact ⟨_, hK, I2, ρ', c2.put d hd (.stat (top_stat t2 hnb))⟩
    | true =>
      rw [hnb] at hK
      refine ⟨_, hK, ?_⟩
      cases d with
      | none => exact ⟨I2, ρ', c2.put none hd (v := .any) (.any x)⟩
      | some D =>
      let ρ3 : Pl := fun s0 => if s0 = D then π1 A.length else ρ' s0
      have h1 : ∀ s0, s0 ≠ D → ρ3 s0 = ρ' s0 := fun s0 h => by simp [ρ3, h]
      have h2 : ρ3 D = π1 A.length := by simp [ρ3]
      have hsepR : Sep I2 (fun _ => π1 A.length) w' (fun i => if i = 0 then some r else none) := by
        refine ⟨fun s0 T p hm => ?_, fun s0 T p k hm q1 q2 => ?_, fun s0 T p k s1 T' p' k' hm q1 q2 hm' q1' q2' he => ?_⟩
        · split at hm <;> cases hm; exact s2.row A.length _ p hext
        · split at hm <;> cases hm; exact s2.free A.length _ p k hext q1 q2
        · split at hm <;> cases hm
          split at hm' <;> cases hm'
          rename_i e1 e2
          exact ⟨e1.trans e2.symm, (s2.inj A.length _ p k A.length _ p' k' hext q1 q2 hext q1' q2' he).2⟩
      have c3 := c2.kill D h1
      have c4 := c3.setAny (d := D) h2 (kill_mem_self st' D) (hnp D rfl) hsepR (fun p k q1 q2 ⟨s0, T0, p0, k0, g1, g2, g3, g4⟩ => by
        obtain ⟨hne, g1⟩ := kill_mem_of g1
        rw [h1 s0 hne] at g3
        exact hap' k0.b ⟨s0, T0, p0, k0, g1, (fun ⟨i, r', q, h, _⟩ => by cases h), g2, g3, rfl⟩ A.length r p k hext (.inl rfl) q1 q2 g4.symm) (fun p k q1 q2 => hnlo A.length r p k hext q1 q2)
      exact ⟨I2, ρ3, c4.put (some D) hd (top_rep (by rw [h2]; exact t2))⟩

theorem callM_sound (c : Conc N E st a w I ρ) {d : Option Nat} (hd : ∀ t, d = some t → t < N) (hnp : ∀ t, d = some t → E.args[t]? = none) {f : FuncId} {ms : List Bool} {args : List AV} {vals : Array Value} {K : St → Prop}
    (hn : vals.size = args.length) (hr : ∀ j (hj : j < args.length) (hk : j < vals.size), Rep I ρ (args[j]) (vals[j])) (h : callM P ms st d f args K .mk) :
    HasBody P f ∧ Calls P f vals w fun e w' => ∃ x, e = .returned x ∧ ∃ st', K st' ∧ CC N E st' (a.put d x) w' := by
  cases ms with
  | nil =>
    obtain ⟨hb, hc⟩ := callP_sound c.held c.mem h hn hr
    refine ⟨hb, hc.mono ?_⟩
    rintro e w' ⟨x, rfl, hret⟩
    refine ⟨x, rfl, ?_⟩
    have hret := hret.ret (ρ := ρ)
    rcases hret with ⟨v, I', hK, hv, hg⟩ | ⟨T, I', π, hK, ht, hg, hT⟩
    · exact ⟨_, hK, I', ρ, (c.grow hg).put d hd hv⟩
    · exact ⟨_, hK, c.addB d hd hnp hg ht hT⟩
  | cons b ms =>
    have h : takeAll st.mem 0 (b :: ms) args (fun l s => vc (apartL (placesOf s) = true) (callX P st d f s (argsOf (hideM (rootsOf s) st.mem) l args) (lentOf l args) K .mk .mk) .mk) := h
    obtain ⟨l, s, ⟨hap, hX⟩, ht⟩ := takeAll_spec args 0 (b :: ms) h
    exact callX_sound c hd hnp ht hap hn hr hX
end
end Go.AM
namespace Go.AM
open Go.RowKit (Below)

section
variable {P : Program} {M : FuncId → List Bool} {N : Nat} {E : Entry} {st : St} {a : Act} {w w' : World} {I I' : Gh} {ρ ρ' : Pl} {mem mem' : Nat → Option AV}
variable {d : Option Nat} {t : TypeId} {pos : String} {after : Array Edge} {g : Option (Nat × Bool)} {K : St → Prop} {Q : Exit → Act → World → Prop}

theorem Conc.env (c : Conc N E st a w I ρ) : Env P I ρ st.ev st.mem a w := ⟨c.held, c.ev, c.mem⟩

theorem fret_step (c : Conc N E st a w I ρ) (hd : ∀ t, d = some t → t < N) (hnp : ∀ t, d = some t → E.args[t]? = none) {x : Value} (h : FRet I ρ w (fun v => valP v (fun v => K (st.put d v)) .mk) (fun T => valP T (fun T => K (st.addB d T)) .mk) x w') : AOut N E K (a.put d x) w' := by
  rcases h with ⟨v, I', hK, hv, hg⟩ | ⟨T, I', π, hK, ht, hg, hT⟩
  · exact ⟨_, hK, I', ρ, (c.grow hg).put d hd hv⟩
  · exact ⟨_, hK, c.addB d hd hnp hg ht hT⟩

/-- does it make a root, so that its slot must not be a parameter's? -/
def makesR (o : Op) : Bool := match o with
  | .alloc _ | .box _ _ | .buildSlice _ _ _ | .makeSlice _ _ _ | .makeMap _ _ => true
  | .call c => (match c.callee with | .value _ => true | .builtin .append => true | _ => false)
  | _ => false
theorem fop_noB {ev : Operand → AV} {o : Op} {K B : AV → Prop} (hm : makesR o = false) (h : fop P ev mem o K B .mk .mk) : fop P ev mem o K (fun _ => False) .mk .mk := by
  cases o <;> first
    | exact h
    | (cases hm; done)
    | (rename_i c
       obtain ⟨callee, args, ats⟩ := c
       cases callee <;> first
         | (cases hm; done)
         | exact h
         | (rename_i b
            cases b <;> first
              | (cases hm; done)
              | exact h))

/-- an operation that turns nothing, among the others -/
theorem fop_step (c : Conc N E st a w I ρ) (hd : ∀ t, d = some t → t < N) {o : Op} (hnp : makesR o = true → ∀ t, d = some t → E.args[t]? = none) (hcall : isCallV o = false)
    (h : fop P st.ev st.mem o (fun v => valP v (fun v => K (st.put d v)) .mk) (fun T => valP T (fun T => K (st.addB d T)) .mk) .mk .mk) :
    (⟨d, o, t, pos, after, g⟩ : Oper).wp P a w (AOut N E K) Q := by
  cases hm : makesR o with
  | true =>
    obtain ⟨x, w', hrun, hres⟩ := fop_run (d := d) (t := t) (pos := pos) (after := after) (g := g) c.env hcall h
    exact wp_value hrun (fret_step c hd (hnp hm) (hres.ret c.held))
  | false =>
    obtain ⟨x, w', hrun, hres⟩ := fop_run (d := d) (t := t) (pos := pos) (after := after) (g := g) c.env hcall (fop_noB hm h)
    refine wp_value hrun ?_
    rcases hres.ret c.held with ⟨v, I', hK, hv, hg⟩ | ⟨T, I', π, hK, _⟩
    · exact ⟨_, hK, I', ρ, (c.grow hg).put d hd hv⟩
    · exact hK.elim

theorem call_step (c : Conc N E st a w I ρ) (hd : ∀ t, d = some t → t < N) (hnp : ∀ t, d = some t → E.args[t]? = none) {x : Operand} {args : Array Operand} {ats : Array TypeId} (h : callA P M st d (st.ev x) (args.toList.map st.ev) K .mk) :
    (⟨d, .call ⟨.value x, args, ats⟩, t, pos, after, g⟩ : Oper).wp P a w (AOut N E K) Q := by
  have hx := c.ev x
  unfold callA at h
  split at h
  · rename_i f caps hf
    rw [hf] at hx
    obtain ⟨arr, hxe, hcn, hcr⟩ := rep_fn hx
    have key := callM_sound (P := P) c hd hnp (f := f) (ms := M f) (args := args.toList.map st.ev ++ caps) (vals := args.map a.eval ++ arr) (K := K) (by simp [hcn]) (fun j hj hk => ?_) h
    · obtain ⟨⟨fn, cd, hf1, hb, hname⟩, hcall⟩ := key
      have hrun : (execOp a.eval ⟨d, .call ⟨.value x, args, ats⟩, t, pos, after, g⟩).run P w = .ok (.enter f (args.map a.eval ++ arr)) w := by
        have he : execOp a.eval ⟨d, .call ⟨.value x, args, ats⟩, t, pos, after, g⟩ = (do let d ← Deferred.ofValue (a.eval x) (args.map a.eval); invoke d.target d.args : Sem Next) := by
          simp [execOp, resolve]
        rw [he, hxe]
        simp [Deferred.ofValue, invoke, callFunc, hf1, hb, hname]
      unfold Oper.wp
      rw [hrun]
      refine hcall.mono ?_
      rintro e w' ⟨y, rfl, hst⟩
      exact hst
    · by_cases hjl : j < (args.toList.map st.ev).length
      · have hjl' : j < args.size := by simpa using hjl
        have e1 : (args.toList.map st.ev ++ caps)[j] = (args.toList.map st.ev)[j] := List.getElem_append_left hjl
        have e2 : (args.map a.eval ++ arr)[j] = (args.map a.eval)[j]'(by simpa using hjl') := Array.getElem_append_left (by simpa using hjl')
        rw [e1, e2]; simp; exact c.ev _
      · have hsz : (args.toList.map st.ev).length = args.size := by simp
        have hj2 : j - args.size < caps.length := by simp at hj; omega
        have e1 : (args.toList.map st.ev ++ caps)[j] = caps[j - (args.toList.map st.ev).length]'(by omega) := List.getElem_append_right (by omega)
        have e2 : (args.map a.eval ++ arr)[j] = arr[j - (args.map a.eval).size]'(by simp; omega) := Array.getElem_append_right (by simp; omega)
        rw [e1, e2]
        have e3 : j - (args.map a.eval).size = j - args.size := by simp
        have e4 : j - (args.toList.map st.ev).length = j - args.size := by rw [hsz]
        simp only [e3, e4]
        exact hcr _ hj2 (by omega)
  · exact h.elim

/-- an operation of this code: its slot is in the frame; a root that it makes is no parameter's -/
def RootOk (E : Entry) (d : Option Nat) (o : Op) : Prop := makesR o = true → (∀ t, d = some t → E.args[t]? = none) ∧ (d = none → isCallV o = true)
theorem RootOk.some {o : Op} (h : RootOk E d o) (hm : makesR o = true) (hc : isCallV o = false) : E.args[d.getD 0]? = none := by
  obtain ⟨h1, h2⟩ := h hm
  cases d with
  | none => rw [h2 rfl] at hc; cases hc
  | some t => exact h1 t rfl

/-- ONE OPERATION OF WHATEVER KIND -/
theorem aop_sound (c : Conc N E st a w I ρ) (hd : ∀ t, d = some t → t < N) {o : Op} (hnp : RootOk E d o) (h : aop P M st d o K) : (⟨d, o, t, pos, after, g⟩ : Oper).wp P a w (AOut N E K) Q := by
  unfold aop at h
  split at h
  · exact store_sound c hd h
  · rename_i ty x
    unfold boxA at h
    split at h
    · rename_i hb
      exact fop_step c hd (fun hm => (hnp hm).1) rfl ⟨⟨h.1, hb⟩, h.2⟩
    · exact box_sound c hd (hnp.some rfl rfl) h
  · exact map_sound c hd rfl h
  · exact map_sound c hd rfl h
  · rename_i c'
    obtain ⟨callee, args, argTypes⟩ := c'
    simp only at h
    split at h
    · split at h
      · rename_i q1 q2 x y t1 t2 hx ht
        have hargs : args = #[x, y] := by apply Array.toList_inj.1; simpa using hx
        have hat : argTypes = #[t1, t2] := by apply Array.toList_inj.1; simpa using ht
        subst hargs; subst hat
        obtain ⟨rfl, h⟩ := h
        exact append_sound c hd (hnp.some rfl rfl) h
      · exact h.elim
    · exact call_step c hd (hnp rfl).1 h
    · rename_i hne1 hne2
      refine fop_step c hd (fun hm => (hnp hm).1) ?_ h
      cases callee <;> first | rfl | exact (hne2 _ rfl).elim
  · rename_i q1 q2 q3 q4 q5
    refine fop_step c hd (fun hm => (hnp hm).1) ?_ h
    cases o <;> first | rfl | exact (q5 _ rfl).elim

theorem dstOf_eq : ∀ (l : List Oper) (j : Nat), dstOf l j = (l[j]?).bind (·.dst)
  | [], j => by simp [dstOf]
  | o :: r, 0 => by simp [dstOf]
  | o :: r, j + 1 => by simp [dstOf, dstOf_eq r j]

/-- is the operation wanted? -/
theorem guard_sound (c : Conc N E st a w I ρ) (ops : List Oper) (o : Oper) {A B : Prop} (h : guardP ops st o.guard A B) : (Region.wanted o (yielded ops.toArray a.tmps) = true ∧ A) ∨ (Region.wanted o (yielded ops.toArray a.tmps) = false ∧ B) := by
  unfold Region.wanted
  cases hg : o.guard with
  | none => rw [hg] at h; exact .inl ⟨rfl, h⟩
  | some p =>
    obtain ⟨j, b⟩ := p
    rw [hg] at h
    simp only [guardP, dstOf_eq] at h
    simp only [yielded, List.getElem?_toArray]
    cases hd : (ops[j]?).bind (·.dst) with
    | none =>
      rw [hd] at h
      exact .inr ⟨by cases b <;> rfl, h⟩
    | some s =>
      rw [hd] at h
      simp only [St.frO] at h
      have hr := c.fr s
      have hget : a.tmps[s]? = some (a.tmps.getD s undef) ∨ (a.tmps[s]? = none ∧ a.tmps.getD s undef = undef) := by
        by_cases hlt : s < a.tmps.size
        · left; simp [Array.getD, hlt]
        · right; simp [Array.getD, hlt, Array.getElem?_eq_none (Nat.le_of_not_lt hlt)]
      unfold guardQ at h
      split at h
      · rename_i c0 hfr
        rw [hfr] at hr
        have hv := rep_v hr
        have hsome : a.tmps[s]? = some (.bool c0) := by
          rcases hget with hq | ⟨_, hq⟩
          · rw [hq, hv]
          · rw [hv] at hq; cases hq
        simp only [Option.bind_some, hsome]
        cases b <;> cases c0 <;> simp [ifP] at h ⊢ <;> exact h
      · rename_i q hfr
        rw [hfr] at hr
        have hv := rep_v hr
        refine .inr ⟨?_, h⟩
        simp only [Option.bind_some]
        rcases hget with hq | ⟨hq, _⟩
        · rw [hq, hv]; rfl
        · rw [hq]; rfl
      · exact h.elim

def OpOk (N : Nat) (E : Entry) (o : Oper) : Prop := (∀ t, o.dst = some t → t < N) ∧ RootOk E o.dst o.op

/-- OPERATIONS IN THE TEXT's ORDER -/
theorem seqOps_sound {Q : Exit → Act → World → Prop} (hQ : ∀ a' w', AOut N E K a' w' → Q .normal a' w') (ops : List Oper) : ∀ (l : List Oper) (st : St) (a : Act) (w : World), (∀ o ∈ l, OpOk N E o) → seqOps P M ops l st K → CC N E st a w → wpList P ops.toArray Q l a w
  | [], st, a, w, _, h, hc => hQ _ _ ⟨st, h, hc⟩
  | o :: r, st, a, w, hd, h, ⟨I, ρ, c⟩ => by
    unfold wpList
    obtain ⟨hd0, hnp⟩ := hd o (by simp)
    rcases guard_sound c ops o h with ⟨hw, h1⟩ | ⟨hw, h1⟩
    · rw [if_pos hw]
      refine .inl ?_
      obtain ⟨dst, op, ty, pos, after, g⟩ := o
      refine Oper.wp_mono (fun a' w' hk => ?_) (aop_sound (Q := Q) c hd0 hnp h1)
      obtain ⟨st', hk, hc⟩ := hk
      exact seqOps_sound hQ ops r st' a' w' (fun o ho => hd o (by simp [ho])) hk hc
    · rw [if_neg (by simp [hw])]
      exact seqOps_sound hQ ops r _ _ _ (fun o ho => hd o (by simp [ho])) h1 ⟨I, ρ, c.put _ hd0 (.stat (.v _))⟩
end
end Go.AM
namespace Go.AM

def Pick (F : (AV → Prop) → Prop) : Prop := ∀ K : AV → Prop, F K → ∃ v, F (fun v' => v = v') ∧ K v
theorem pick_at (v : AV) : Pick fun K => K v := fun _ h => ⟨v, rfl, h⟩
theorem pick_vc (p : Prop) {F : (AV → Prop) → Prop} (h : Pick F) : Pick fun K => vc p (F K) .mk := fun K ⟨hp, hk⟩ => let ⟨v, a, b⟩ := h K hk; ⟨v, ⟨hp, a⟩, b⟩
theorem pick_false : Pick fun _ => False := fun _ h => h.elim
theorem pick_opt {α : Type} (o : Option α) {F : α → (AV → Prop) → Prop} (h : ∀ a, Pick (F a)) : Pick fun K => optP o (fun a => F a K) .mk := fun K hk => by
  cases o with
  | none => exact hk.elim
  | some a => exact h a K hk
theorem pick_if (b : Bool) (x y : AV) : Pick fun K => ifP b (K x) (K y) .mk .mk := fun K h => by
  cases b with
  | true => exact ⟨x, ⟨fun _ => rfl, (fun q => by cases q)⟩, h.1 rfl⟩
  | false => exact ⟨y, ⟨(fun q => by cases q), fun _ => rfl⟩, h.2 rfl⟩
theorem pick_intBin (op : BinOp) (k : IntKind) (m n : Int) : Pick fun K => intBin op k m n K .mk := by
  cases op <;> first | exact pick_at _ | exact pick_vc _ (pick_at _) | exact pick_false
theorem pick_aggBin (op : BinOp) (L : Option (List (Nat × Nat))) (fs gs : List AV) : Pick fun K => aggBin op L fs gs K .mk := by
  cases op <;> first | exact pick_opt _ (fun L => pick_opt _ fun b => pick_at _) | exact pick_false
theorem pick_nilBin (P : Program) (op : BinOp) (t : TypeId) (cst : Bool) (x y : AV) : Pick fun K => nilBin P op t cst x y K .mk := by
  cases op <;> first | exact pick_opt _ (fun a => pick_opt _ fun b => pick_vc _ (pick_at _)) | exact pick_false
theorem pick_binP (P : Program) (op : BinOp) (t : TypeId) (cst : Bool) (x y : AV) : Pick fun K => binP P op t cst x y K .mk := by
  intro K h
  unfold binP at h ⊢
  split at h
  · rename_i k a k' b
    have : Pick fun K => intBin2 op k k' a b K .mk := by
      cases op <;> first | exact pick_vc _ (pick_at _) | exact pick_vc _ (pick_intBin _ _ _ _)
    exact this K h
  · rename_i a b
    have : Pick fun K => strBin op a b K .mk := by
      cases op <;> first | exact pick_at _ | exact pick_vc _ (pick_at _) | exact pick_false
    exact this K h
  · rename_i a b
    have : Pick fun K => boolBin P op t a b K .mk := by
      cases op <;> first | exact pick_at _ | exact pick_vc _ (pick_at _) | exact pick_false
    exact this K h
  · exact pick_aggBin _ _ _ _ K h
  · exact pick_nilBin _ _ _ _ _ _ K h
theorem pick_unP (op : UnOp) (x : AV) : Pick fun K => unP op x K .mk := by
  intro K h
  unfold unP at h
  split at h
  · exact pick_at _ K h
  · exact pick_at _ K h
  · exact h.elim
theorem pick_pickP (c x y : AV) : Pick fun K => pickP c x y K .mk := by
  intro K h
  unfold pickP at h
  split at h
  · exact pick_if _ _ _ K h
  · exact h.elim
theorem pick_loadCs (g : Option Bool) (n : Nat) (cs : List AV) (off : Nat) : Pick fun K => loadCs g n cs off K .mk := by
  intro K h
  unfold loadCs at h
  split at h
  · exact pick_vc _ (pick_at _) K h
  · exact pick_vc _ (pick_at _) K h
  · exact h.elim
theorem pick_loadE (g : Option Bool) (n s : Nat) (p : Path) (i j : Nat) (x : AV) : Pick fun K => loadE g n s p i j x K .mk := by
  intro K h
  unfold loadE at h
  split at h
  · exact pick_vc _ (pick_at _) K h
  · exact pick_vc _ (pick_at _) K h
  · exact h.elim
theorem pick_loadN (g : Option Bool) (n s : Nat) (p : Path) (i j : Nat) (T : AV) : Pick fun K => loadN g n s p i j T K .mk := by
  intro K h
  unfold loadN at h
  split at h
  · exact pick_vc _ (pick_loadE _ _ _ _ _ _ _) K h
  · exact pick_vc _ (pick_loadE _ _ _ _ _ _ _) K h
  · exact h.elim
theorem pick_loadP (P : Program) (mem : Nat → Option AV) (t : TypeId) (a : AV) : Pick fun K => loadP P mem t a K .mk := by
  intro K h
  unfold loadP at h
  split at h
  · exact pick_loadN _ _ _ _ _ _ _ K h
  · exact pick_loadCs _ _ _ _ K h
  · exact h.elim
theorem pick_fieldAP (f : Option (Nat × TypeId)) (a : AV) : Pick fun K => fieldAP f a K .mk := by
  intro K h
  unfold fieldAP at h
  split at h
  · exact pick_at _ K h
  · exact pick_vc _ (pick_at _) K h
  · exact h.elim
theorem pick_indexAP (z : Option Nat) (a i : AV) : Pick fun K => indexAP z a i K .mk := by
  intro K h
  unfold indexAP at h
  split at h
  · exact pick_vc _ (pick_at _) K h
  · exact pick_vc _ (pick_at _) K h
  · exact h.elim
theorem pick_lenP (P : Program) (t : TypeId) (a : AV) : Pick fun K => lenP P t a K .mk := by
  intro K h
  unfold lenP at h
  split at h <;> first | exact pick_vc _ (pick_at _) K h | exact h.elim
theorem pick_minmaxP (b : Bool) (x y : AV) : Pick fun K => minmaxP b x y K .mk := by
  intro K h
  unfold minmaxP at h
  split at h <;> first | exact pick_vc _ (pick_at _) K h | exact h.elim
theorem pick_sliceP (P : Program) (t : TypeId) (x lo hi : AV) : Pick fun K => sliceP P t x lo hi K .mk := by
  intro K h
  unfold sliceP at h
  split at h <;> first | exact pick_vc _ (pick_at _) K h | exact h.elim
theorem pick_fieldP (P : Program) (f : Option (Nat × TypeId)) (a : AV) : Pick fun K => fieldP P f a K .mk := by
  intro K h
  unfold fieldP at h
  split at h
  · exact pick_loadCs _ _ _ _ K h
  · exact h.elim
theorem pick_strIndexP (P : Program) (t : TypeId) (a i : AV) : Pick fun K => strIndexP P t a i K .mk := by
  intro K h
  unfold strIndexP at h
  split at h <;> first | exact pick_vc _ (pick_at _) K h | exact h.elim
theorem pick_nilP (x : AV) : Pick fun K => nilP x K .mk := by
  intro K h
  unfold nilP at h
  split at h <;> first | exact pick_at _ K h | exact h.elim
theorem pick_tupP (x : AV) (i : Nat) : Pick fun K => tupP x i K .mk := by
  intro K h
  unfold tupP at h
  split at h <;> first | exact pick_vc _ (pick_at _) K h | exact h.elim
theorem pick_convP (P : Program) (mem : Nat → Option AV) (src dst : TypeId) (x : AV) : Pick fun K => convP P mem src dst x K .mk := by
  intro K h
  unfold convP at h
  split at h
  · exact pick_vc _ (pick_opt _ fun k => pick_at _) K h
  · rename_i s p z o n
    have : ∀ T : AV, Pick fun K => convN P src dst o n T K .mk := by
      intro T K h
      unfold convN at h
      split at h
      · exact pick_vc _ (pick_opt _ fun e => pick_vc _ (pick_at _)) K h
      · exact h.elim
    exact this _ K h
  · exact h.elim
theorem pick_lookQ (o : Option Value) (z : Value) (ok : Bool) : Pick fun K => lookQ o z ok K .mk := by
  intro K h
  cases o <;> exact ⟨_, rfl, h⟩
theorem pick_lookP (P : Program) (mem : Nat → Option AV) (t : TypeId) (m i : AV) (ok : Bool) : Pick fun K => lookP P mem t m i ok K .mk := by
  intro K h
  unfold lookP at h
  split at h
  · rename_i s p
    have : ∀ T : AV, Pick fun K => lookN P t T i ok K .mk := by
      intro T K h
      unfold lookN at h
      split at h
      · rename_i kd f k _
        have : Pick fun K => optP (mapT P t) (fun ke => vc (ke.1 = kd ∧ keyB kd k = true) (optP (zeroV P ke.2) (fun z => lookQ (f k) z ok K .mk) .mk) .mk) .mk := pick_opt _ fun ke => pick_vc _ (pick_opt _ fun z => pick_lookQ _ z ok)
        exact this K h
      · exact h.elim
    exact this _ K h
  · exact h.elim

/-- what an operation yields: a value, or an owned tree -/
abbrev Res := Bool × AV
def Yld (P : Program) (ev : Operand → AV) (mem : Nat → Option AV) (o : Op) (r : Res) : Prop := fop P ev mem o (fun v' => r = (false, v')) (fun T => r = (true, T)) .mk .mk

theorem fop_pick {P : Program} {ev : Operand → AV} {mem : Nat → Option AV} {o : Op} {K B : AV → Prop} (h : fop P ev mem o K B .mk .mk) :
    ∃ r, Yld P ev mem o r ∧ (match r.1 with | false => K r.2 | true => B r.2) ∧ (r.1 = true → makesB o = true) := by
  have one : ∀ (F : (AV → Prop) → Prop), Pick F → F K → (∀ r : Res, F (fun v' => r = (false, v')) → Yld P ev mem o r) → ∃ r, Yld P ev mem o r ∧ (match r.1 with | false => K r.2 | true => B r.2) ∧ (r.1 = true → makesB o = true) := by
    intro F hp hk hy
    obtain ⟨v, h1, h2⟩ := hp K hk
    refine ⟨(false, v), hy _ ?_, h2, fun q => by cases q⟩
    have : (fun v' => ((false, v) : Res) = (false, v')) = fun v' => v = v' := by funext v'; simp
    rw [this]; exact h1
  cases o <;> unfold fop at h <;> try exact h.elim
  case move x => exact one _ (pick_at _) h (fun r hr => hr)
  case assign x => exact one _ (pick_at _) h (fun r hr => hr)
  case pick c x y => exact one _ (pick_pickP _ _ _) h (fun r hr => hr)
  case load t a => exact one _ (pick_loadP _ _ _ _) h (fun r hr => hr)
  case nilCheck x => exact one _ (pick_nilP _) h (fun r hr => hr)
  case binOp op t x y yt => exact one _ (pick_binP _ _ _ _ _ _) h (fun r hr => hr)
  case unOp op t x => exact one _ (pick_unP _ _) h (fun r hr => hr)
  case convert src dst x => exact one _ (pick_convP _ _ _ _ _) h (fun r hr => hr)
  case fieldAddr t x i => exact one _ (pick_fieldAP _ _) h (fun r hr => hr)
  case field t x i => exact one _ (pick_fieldP _ _ _) h (fun r hr => hr)
  case indexAddr t x i => exact one _ (pick_indexAP _ _ _) h (fun r hr => hr)
  case index t x i => exact one _ (pick_strIndexP _ _ _ _) h (fun r hr => hr)
  case lookup t m i ok => exact one _ (pick_lookP _ _ _ _ _ _) h (fun r hr => hr)
  case extract x i => exact one _ (pick_tupP _ _) h (fun r hr => hr)
  case slice t x lo hi mx =>
    cases mx with
    | some _ => exact h.elim
    | none => exact one _ (pick_sliceP _ _ _ _ _) h (fun r hr => hr)
  case makeFunc f first caps =>
    cases f <;> try exact h.elim
    exact one _ (pick_vc _ (pick_at _)) h (fun r hr => hr)
  case build t ps => exact one _ (pick_opt _ fun z => pick_opt _ fun cs => pick_vc _ (pick_at _)) h (fun r hr => hr)
  case alloc t =>
    simp only at h
    cases hz : zeroT P t with
    | none => rw [hz] at h; exact h.elim
    | some z =>
      rw [hz] at h
      cases hg : aggT P t with
      | none => rw [hg] at h; exact h.elim
      | some g => rw [hg] at h; exact ⟨(true, _), by unfold Yld fop; simp only [hz, hg, optP]; exact ⟨h.1, rfl⟩, h.2, fun _ => rfl⟩
  case box t x => exact ⟨(true, _), by unfold Yld fop; exact ⟨h.1, rfl⟩, h.2, fun _ => rfl⟩
  case makeMap t r =>
    cases r with
    | some _ => exact h.elim
    | none =>
      simp only at h
      cases hz : mapT P t with
      | none => rw [hz] at h; exact h.elim
      | some ke => rw [hz] at h; exact ⟨(true, _), by unfold Yld fop; simp only [hz]; rfl, h, fun _ => rfl⟩
  case buildSlice t n ps =>
    simp only at h
    cases hz : elemT P t with
    | none => rw [hz] at h; exact h.elim
    | some z =>
      rw [hz] at h
      obtain ⟨h1, h2⟩ := h
      cases hb : AV.bearsL (ps.toList.map fun p => ev p.2) with
      | true => rw [hb, resP_t] at h2; exact ⟨(false, _), by unfold Yld fop; simp only [hz, optP]; exact ⟨h1, by rw [hb]; exact (rfl : ((false, _) : Res) = (false, _))⟩, h2, fun q => by cases q⟩
      | false => rw [hb, resP_f] at h2; exact ⟨(true, _), by unfold Yld fop; simp only [hz, optP]; exact ⟨h1, by rw [hb]; exact (rfl : ((true, _) : Res) = (true, _))⟩, h2, fun _ => rfl⟩
  case makeSlice t l c =>
    simp only at h
    cases hz : elemT P t with
    | none => rw [hz] at h; exact h.elim
    | some e =>
      rw [hz] at h
      simp only [optP] at h
      split at h
      · rename_i z hz2
        split at h
        · rename_i g hg
          simp only [intP] at h
          split at h
          · rename_i kl n hn
            split at h
            · rename_i kc n' hn'
              refine ⟨(true, _), ?_, h.2, fun _ => rfl⟩
              unfold Yld fop
              simp only [hz, optP, hz2, hg, hn, intP, hn']
              exact ⟨h.1, rfl⟩
            · exact h.elim
          · exact h.elim
        · exact h.elim
      · exact h.elim
  case call c =>
    have h : callOp P ev mem c K B .mk .mk := h
    unfold callOp at h
    have hY : ∀ r, callOp P ev mem c (fun v' => r = (false, v')) (fun T => r = (true, T)) .mk .mk → Yld P ev mem (.call c) r := fun r hr => hr
    unfold callOp at hY
    split at h
    · rename_i x hx
      have hmk : makesB (.call c) = true := by simp [makesB, hx]
      rw [hx] at hY
      simp only at hY
      unfold calleeP at h hY
      split at h
      · rename_i f caps hf
        rw [hf] at hY
        simp only at hY
        obtain ⟨r, h1, h2, h3⟩ := h
        rcases h3 with h3 | h3
        · cases hn : r.nodeB with
          | true => rw [hn] at h3; exact ⟨(true, r), hY _ ⟨r, h1, h2, .inl (by rw [hn]; rfl)⟩, h3, fun _ => hmk⟩
          | false => rw [hn] at h3; exact ⟨(false, r), hY _ ⟨r, h1, h2, .inl (by rw [hn]; rfl)⟩, h3, fun q => by cases q⟩
        · exact ⟨(false, r.fz), hY _ ⟨r, h1, h2, .inr rfl⟩, h3, fun q => by cases q⟩
      · exact h.elim
    · rename_i hx
      rw [hx] at hY
      simp only at hY
      split at h
      · rename_i x t ts e1 e2
        rw [e1, e2] at hY
        exact one _ (pick_lenP _ _ _) h hY
      · exact h.elim
    · rename_i hx
      rw [hx] at hY
      simp only at hY
      split at h
      · rename_i x y e1
        rw [e1] at hY
        exact one _ (pick_minmaxP _ _ _) h hY
      · exact h.elim
    · rename_i hx
      rw [hx] at hY
      simp only at hY
      split at h
      · rename_i x y e1
        rw [e1] at hY
        exact one _ (pick_minmaxP _ _ _) h hY
      · exact h.elim
    · exact h.elim

/-- an operation looks at its operands alone -/
theorem fop_congr {P : Program} {ev ev' : Operand → AV} {mem : Nat → Option AV} {o : Op} {K B : AV → Prop} (he : ∀ x ∈ o.operands, ev x = ev' x) (h : fop P ev mem o K B .mk .mk) : fop P ev' mem o K B .mk .mk := by
  cases o <;> simp only [Op.operands] at he <;> simp only [fop] at h ⊢
  case move x => rw [← he x (by simp)]; exact h
  case assign x => rw [← he x (by simp)]; exact h
  case pick c x y => rw [← he c (by simp), ← he x (by simp), ← he y (by simp)]; exact h
  case alloc t => exact h
  case box t x => rw [← he x (by simp)]; exact h
  case load t x => rw [← he x (by simp)]; exact h
  case nilCheck x => rw [← he x (by simp)]; exact h
  case binOp op t x y yt => rw [← he x (by simp), ← he y (by simp)]; exact h
  case unOp op t x => rw [← he x (by simp)]; exact h
  case convert src dst x => rw [← he x (by simp)]; exact h
  case fieldAddr t x i => rw [← he x (by simp)]; exact h
  case field t x i => rw [← he x (by simp)]; exact h
  case indexAddr t x i => rw [← he x (by simp), ← he i (by simp)]; exact h
  case index t x i => rw [← he x (by simp), ← he i (by simp)]; exact h
  case lookup t x i ok => rw [← he x (by simp), ← he i (by simp)]; exact h
  case extract x i => rw [← he x (by simp)]; exact h
  case makeSlice t l c => rw [← he l (by simp), ← he c (by simp)]; exact h
  case makeMap t r => exact h
  case build t ps =>
    have : (ps.toList.map fun p => (p.1, ev p.2)) = ps.toList.map fun p => (p.1, ev' p.2) := List.map_congr_left fun p hp => by rw [he p.2 (by simp; exact ⟨p.1, by simpa using hp⟩)]
    rw [← this]; exact h
  case buildSlice t n ps =>
    have e0 : (ps.toList.map fun p => ev p.2) = ps.toList.map fun p => ev' p.2 := List.map_congr_left fun p hp => by rw [he p.2 (by simp; exact ⟨p.1, by simpa using hp⟩)]
    have e1 : ∀ z, (ps.toList.all fun p => decide ((ev p.2).cells.length = z) && knownCells (ev p.2)) = (ps.toList.all fun p => decide ((ev' p.2).cells.length = z) && knownCells (ev' p.2)) := by
      intro z
      rw [Bool.eq_iff_iff, List.all_eq_true, List.all_eq_true]
      constructor <;> intro q p hp <;> have := q p hp <;> have e := he p.2 (by simp; exact ⟨p.1, by simpa using hp⟩) <;> first | rw [e] at this; exact this | rw [← e] at this; exact this
    cases hz : elemT P t with
    | none => rw [hz] at h; exact h.elim
    | some e =>
      rw [hz] at h
      simp only [optP] at h ⊢
      rw [← e0, ← e1]; exact h
  case makeFunc f first caps =>
    cases f <;> simp only at h ⊢
    have : caps.toList.map ev = caps.toList.map ev' := List.map_congr_left fun p hp => he p (by simp; exact .inr (by simpa using hp))
    rw [← this]; exact h
  case slice t x lo hi mx =>
    cases mx with
    | some _ => simp only at h
    | none =>
      have h1 : lo.map ev = lo.map ev' := by cases lo with | none => rfl | some l => simp [he l (by simp)]
      have h2 : hi.map ev = hi.map ev' := by cases hi with | none => rfl | some l => simp [he l (by simp)]
      simp only at h ⊢
      rw [← h1, ← h2, ← he x (by simp)]; exact h
  case call c =>
    obtain ⟨callee, args, argTypes⟩ := c
    have ha : args.toList.map ev = args.toList.map ev' := List.map_congr_left fun p hp => he p (by simp [Call.operands]; exact .inr (by simpa using hp))
    cases callee with
    | value x =>
      have hx := he x (by simp [Call.operands])
      unfold callOp at h ⊢
      simp only at h ⊢
      rw [← ha, ← hx]; exact h
    | invoke r m => exact h.elim
    | builtin b =>
      unfold callOp at h ⊢
      cases b <;> try exact h.elim
      all_goals
        simp only at h ⊢
        split at h
        · first
            | (rename_i hx _
               have := he _ (by simp [Call.operands]; rw [← Array.mem_toList_iff, hx]; exact List.mem_cons_self ..)
               rw [← this]; exact h)
            | (rename_i hx
               have := he _ (by simp [Call.operands]; rw [← Array.mem_toList_iff, hx]; exact List.mem_cons_self ..)
               have h2 := he _ (by simp [Call.operands]; rw [← Array.mem_toList_iff, hx]; exact List.mem_cons_of_mem _ (List.mem_cons_self ..))
               rw [← this, ← h2]; exact h)
        · exact h.elim
end Go.AM
namespace Go.AM
open Go.RowKit (Below)

def app1 (o : Oper) (r : Res) (st : St) : St := match r.1 with | false => st.put o.dst r.2 | true => st.addN o.dst r.2
/-- the state in which those operations have been carried out that L names -/
def part : List Oper → List Res → (Nat → Bool) → Nat → St → St
  | o :: os, r :: rs, L, k, st => part os rs L (k + 1) (if L k then app1 o r st else st)
  | _, _, _, _, st => st

def gsel (ops : List Oper) (st : St) (g : Option (Nat × Bool)) : Option Bool :=
  match g with
  | none => some true
  | some (j, b) => match st.frO (dstOf ops j) with | .v (.bool c) => some (c == b) | .v (.tuple _) => some false | _ => none

theorem guardP_sel {ops : List Oper} {st : St} {g : Option (Nat × Bool)} {A B : Prop} (h : guardP ops st g A B) : (gsel ops st g = some true ∧ A) ∨ (gsel ops st g = some false ∧ B) := by
  unfold gsel
  cases g with
  | none => exact .inl ⟨rfl, h⟩
  | some p =>
    obtain ⟨j, b⟩ := p
    simp only [guardP] at h
    simp only
    generalize st.frO (dstOf ops j) = c at h ⊢
    unfold guardQ at h
    split at h
    · cases b <;> rename_i c <;> cases c <;> simp [ifP] at h ⊢ <;> exact h
    · exact .inr ⟨rfl, h⟩
    · exact h.elim

def StepR (P : Program) (ops : List Oper) (mem0 : Nat → Option AV) (o : Oper) (st : St) (r : Res) : Prop :=
  (gsel ops st o.guard = some true ∧ Yld P st.ev mem0 o.op r ∧ (r.1 = true → makesB o.op = true)) ∨ (gsel ops st o.guard = some false ∧ r = (false, .un))
def FlowR (P : Program) (ops : List Oper) (mem0 : Nat → Option AV) : List Oper → List Res → St → Prop
  | [], [], _ => True
  | o :: os, r :: rs, st => StepR P ops mem0 o st r ∧ FlowR P ops mem0 os rs (app1 o r st)
  | _, _, _ => False

theorem flow_extract {P : Program} {ops : List Oper} {mem0 : Nat → Option AV} {K : St → Prop} : ∀ (hd : List Oper) (k : Nat) (st : St), flowOps P ops mem0 hd st K → ∃ rs, FlowR P ops mem0 hd rs st ∧ K (part hd rs (fun _ => true) k st)
  | [], _, st, h => ⟨[], trivial, h⟩
  | o :: os, k, st, h => by
    rcases guardP_sel h with ⟨hg, h1⟩ | ⟨hg, h1⟩
    · obtain ⟨⟨b, v⟩, h2, h3, h4⟩ := fop_pick h1
      cases b with
      | false =>
        obtain ⟨rs, h5, h6⟩ := flow_extract os (k + 1) _ h3
        exact ⟨(false, v) :: rs, ⟨.inl ⟨hg, h2, h4⟩, h5⟩, h6⟩
      | true =>
        obtain ⟨rs, h5, h6⟩ := flow_extract os (k + 1) _ h3
        exact ⟨(true, v) :: rs, ⟨.inl ⟨hg, h2, h4⟩, h5⟩, h6⟩
    · obtain ⟨rs, h5, h6⟩ := flow_extract os (k + 1) _ h1
      exact ⟨(false, .un) :: rs, ⟨.inr ⟨hg, rfl⟩, h5⟩, h6⟩

theorem flow_len {P : Program} {ops : List Oper} {mem0 : Nat → Option AV} : ∀ {hd : List Oper} {rs : List Res} {st : St}, FlowR P ops mem0 hd rs st → rs.length = hd.length
  | [], [], _, _ => rfl
  | _ :: _, _ :: _, _, h => by simp [flow_len h.2]
  | [], _ :: _, _, h => h.elim
  | _ :: _, [], _, h => h.elim

theorem part_congr : ∀ (hd : List Oper) (rs : List Res) {L M : Nat → Bool} (k : Nat) (st : St), (∀ j, k ≤ j → L j = M j) → part hd rs L k st = part hd rs M k st
  | [], _, _, _, _, _, _ => rfl
  | _ :: _, [], _, _, _, _, _ => rfl
  | o :: os, r :: rs, L, M, k, st, h => by
    simp only [part, h k (Nat.le_refl _)]
    exact part_congr os rs (k + 1) _ fun j hj => h j (by omega)

theorem part_none : ∀ (hd : List Oper) (rs : List Res) {L : Nat → Bool} (k : Nat) (st : St), (∀ j, k ≤ j → L j = false) → part hd rs L k st = st
  | [], _, _, _, _, _ => rfl
  | _ :: _, [], _, _, _, _ => rfl
  | o :: os, r :: rs, L, k, st, h => by
    simp only [part, h k (Nat.le_refl _)]
    exact part_none os rs (k + 1) _ fun j hj => h j (by omega)

theorem flow_step {P : Program} {ops : List Oper} {mem0 : Nat → Option AV} : ∀ {hd : List Oper} {rs : List Res} {st : St} (k : Nat), FlowR P ops mem0 hd rs st → ∀ i o r, hd[i]? = some o → rs[i]? = some r → StepR P ops mem0 o (part hd rs (fun j => decide (j < k + i)) k st) r
  | [], _, _, _, _, i, _, _, h, _ => by simp at h
  | _ :: _, [], _, _, h, _, _, _, _, _ => h.elim
  | o :: os, r :: rs, st, k, h, 0, o', r', h1, h2 => by
    simp at h1 h2
    subst h1; subst h2
    rw [part_none _ _ _ _ (fun j hj => by simp; omega)]
    exact h.1
  | o :: os, r :: rs, st, k, h, i + 1, o', r', h1, h2 => by
    have := flow_step (k + 1) h.2 i o' r' (by simpa using h1) (by simpa using h2)
    simp only [part]
    have e2 : (fun j => decide (j < k + 1 + i)) = fun j => decide (j < k + (i + 1)) := by funext j; congr 1; rw [Nat.add_assoc, Nat.add_comm 1 i]
    rw [e2] at this
    rw [if_pos (by simp)]
    exact this

/-- a slot reads alike where the operations that fill it have been carried out alike -/
theorem part_fr {u : Nat} : ∀ (hd : List Oper) (rs : List Res) {L M : Nat → Bool} (k : Nat) (st st' : St), st.fr u = st'.fr u → (∀ j o, hd[j]? = some o → o.dst = some u → L (k + j) = M (k + j)) → (part hd rs L k st).fr u = (part hd rs M k st').fr u
  | [], _, _, _, _, _, _, h, _ => h
  | _ :: _, [], _, _, _, _, _, h, _ => h
  | o :: os, r :: rs, L, M, k, st, st', h, hL => by
    simp only [part]
    refine part_fr os rs (k + 1) _ _ ?_ fun j o' h1 h2 => by have := hL (j + 1) o' (by simpa using h1) h2; simpa [Nat.add_assoc, Nat.add_comm 1 j] using this
    have key : ∀ s : St, (app1 o r s).fr u = if o.dst = some u then (match r.1 with | true => r.2.atoms u [] | false => r.2) else s.fr u := by
      intro s
      unfold app1
      obtain ⟨b, v⟩ := r
      cases b <;> cases hd : o.dst <;> simp [St.put, St.addN, St.setMem]
      all_goals (split <;> split <;> first | rfl | (rename_i a b; exact absurd a.symm b) | (rename_i a b; exact absurd b.symm a) | (rename_i a b; subst a; rfl))
    by_cases hdst : o.dst = some u
    · have := hL 0 o (by simp) hdst
      simp only [Nat.add_zero] at this
      rw [this]
      cases M k <;> simp [key, hdst, h]
    · cases L k <;> cases M k <;> simp [key, hdst, h]

theorem put_mem (st : St) (d : Option Nat) (v : AV) : (st.put d v).mem = st.mem := by cases d <;> rfl
theorem app1_mem (o : Oper) (r : Res) (st : St) (s : Nat) (h : r.1 = true → o.dst ≠ some s) : (app1 o r st).mem s = st.mem s := by
  unfold app1
  obtain ⟨b, v⟩ := r
  cases b with
  | false => simp only [put_mem]
  | true =>
    cases hd : o.dst with
    | none => rfl
    | some d =>
      have : s ≠ d := fun e => h rfl (by rw [hd, e])
      simp only [St.addN, put_mem, St.setMem, if_neg this]

/-- a block that no operation makes stands as it stood -/
theorem part_mem {s : Nat} : ∀ (hd : List Oper) (rs : List Res) {L : Nat → Bool} (k : Nat) (st : St), (∀ j o r, hd[j]? = some o → rs[j]? = some r → L (k + j) = true → r.1 = true → o.dst ≠ some s) → (part hd rs L k st).mem s = st.mem s
  | [], _, _, _, _, _ => rfl
  | _ :: _, [], _, _, _, _ => rfl
  | o :: os, r :: rs, L, k, st, h => by
    simp only [part]
    rw [part_mem os rs (k + 1) _ fun j o' r' h1 h2 h3 h4 => h (j + 1) o' r' (by simpa using h1) (by simpa using h2) (by simpa [Nat.add_assoc, Nat.add_comm 1 j] using h3) h4]
    split
    · rename_i hl
      exact app1_mem o r st s fun hr => h 0 o r (by simp) (by simp) (by simpa using hl) hr
    · rfl

theorem app1_comm {o o' : Oper} {r r' : Res} {d d' : Nat} (h : o.dst = some d) (h' : o'.dst = some d') (hne : d ≠ d') (st : St) : app1 o r (app1 o' r' st) = app1 o' r' (app1 o r st) := by
  unfold app1
  rw [h, h']
  obtain ⟨b, v⟩ := r
  obtain ⟨b', v'⟩ := r'
  cases b <;> cases b' <;> simp only [St.put, St.addN, St.setMem] <;> congr 1 <;> funext i <;> by_cases c1 : i = d <;> by_cases c2 : i = d' <;> simp [c1, c2] <;> omega

theorem part_comm {o : Oper} {r : Res} {d : Nat} (h : o.dst = some d) : ∀ (hd : List Oper) (rs : List Res) {L : Nat → Bool} (k : Nat) (st : St), (∀ o' ∈ hd, ∃ d', o'.dst = some d' ∧ d' ≠ d) → part hd rs L k (app1 o r st) = app1 o r (part hd rs L k st)
  | [], _, _, _, _, _ => rfl
  | _ :: _, [], _, _, _, _ => rfl
  | o' :: os, r' :: rs, L, k, st, hx => by
    obtain ⟨d', h', hne⟩ := hx o' (by simp)
    simp only [part]
    cases L k with
    | true => rw [if_pos rfl, if_pos rfl, app1_comm h' h hne, part_comm h os rs (k + 1) _ fun o'' ho => hx o'' (by simp [ho])]
    | false => exact part_comm h os rs (k + 1) _ fun o'' ho => hx o'' (by simp [ho])

def DistinctD : List Oper → Prop
  | [] => True
  | o :: r => (∃ d, o.dst = some d ∧ ∀ o' ∈ r, ∃ d', o'.dst = some d' ∧ d' ≠ d) ∧ DistinctD r

theorem part_set : ∀ (hd : List Oper) (rs : List Res) {L M : Nat → Bool} (k : Nat) (st : St) (i : Nat) (o : Oper) (r : Res), DistinctD hd → hd[i]? = some o → rs[i]? = some r → L (k + i) = false → M (k + i) = true → (∀ j, j ≠ k + i → M j = L j) →
    part hd rs M k st = app1 o r (part hd rs L k st)
  | [], _, _, _, _, _, _, _, _, _, h, _, _, _, _ => by simp at h
  | _ :: _, [], _, _, _, _, _, _, _, _, _, h, _, _, _ => by simp at h
  | o' :: os, r' :: rs, L, M, k, st, 0, o, r, hdis, h1, h2, h3, h4, h5 => by
    simp at h1 h2
    subst h1; subst h2
    obtain ⟨d, hd, hx⟩ := hdis.1
    simp only [Nat.add_zero] at h3 h4 h5
    simp only [part, h3, h4, if_true]
    rw [part_congr os rs (k + 1) _ (M := L) fun j hj => h5 j (by omega)]
    exact part_comm hd os rs (k + 1) st hx
  | o' :: os, r' :: rs, L, M, k, st, i + 1, o, r, hdis, h1, h2, h3, h4, h5 => by
    have hk : M k = L k := h5 k (by omega)
    simp only [part, hk]
    exact part_set os rs (k + 1) _ i o r hdis.2 (by simpa using h1) (by simpa using h2) (by simpa [Nat.add_assoc, Nat.add_comm 1 i] using h3) (by simpa [Nat.add_assoc, Nat.add_comm 1 i] using h4) fun j hj => h5 j (by omega)

/-! ### the form that is asked of a region -/
theorem distinctB_spec : ∀ {hd : List Oper}, distinctB hd = true → DistinctD hd
  | [], _ => trivial
  | o :: r, h => by
    simp only [distinctB, Bool.and_eq_true] at h
    refine ⟨?_, distinctB_spec h.2⟩
    cases hd : o.dst with
    | none => rw [hd] at h; exact absurd h.1 (by simp)
    | some d =>
      rw [hd] at h
      refine ⟨d, rfl, fun o' ho => ?_⟩
      have := List.all_eq_true.1 h.1 o' ho
      cases hd' : o'.dst with
      | none => rw [hd'] at this; simp at this
      | some d' => rw [hd'] at this; exact ⟨d', rfl, by simpa using this⟩

theorem head_tail : ∀ ops : List Oper, headOps ops ++ tailOps ops = ops
  | [] => rfl
  | o :: r => by
    simp only [headOps, tailOps]
    split
    · rfl
    · rw [List.cons_append, head_tail r]

theorem mem_bindOn {o : Oper} {j : Nat} : j ∈ bindOn o ↔ ∃ e ∈ o.after, Region.binds .any e = true ∧ e.on = j := by
  unfold bindOn
  simp only [List.mem_map, List.mem_filter]
  constructor
  · rintro ⟨e, ⟨h1, h2⟩, h3⟩; exact ⟨e, by simpa using h1, h2, h3⟩
  · rintro ⟨e, h1, h2, h3⟩; exact ⟨e, ⟨by simpa using h1, h2⟩, h3⟩

/-- what the table of forerunners says -/
theorem ancT_spec (L : Nat → Bool) (all : List Oper) (hclosed : ∀ j o, all[j]? = some o → L j = true → ∀ q ∈ bindOn o, L q = true) : ∀ (l : List Oper) (acc : List (List Nat)) (k : Nat), acc.length = k → (∀ j, l[j]? = all[k + j]?) → (∀ i o, i < k → all[i]? = some o → (∀ q ∈ bindOn o, L q = true) → ∀ x ∈ acc.getD i [], L x = true) →
    ∀ i o, i < k + l.length → all[i]? = some o → (∀ q ∈ bindOn o, L q = true) → ∀ x ∈ (ancT l acc).getD i [], L x = true
  | [], acc, k, _, _, h, i, o, hi, ho, hq => by simp at hi; exact h i o hi ho hq
  | o' :: r, acc, k, hk, hl, h, i, o, hi, ho, hq => by
    have h0 : all[k]? = some o' := by have := hl 0; simpa using this.symm
    refine ancT_spec L all hclosed r _ (k + 1) (by simp [hk]) (fun j => by have := hl (j + 1); simpa [Nat.add_assoc, Nat.add_comm 1 j] using this) ?_ i o (by simp at hi ⊢; omega) ho hq
    intro i' o'' hi' ho'' hq' x hx
    by_cases hik : i' < k
    · rw [List.getD_eq_getElem?_getD, List.getElem?_append_left (by omega), ← List.getD_eq_getElem?_getD] at hx
      exact h i' o'' hik ho'' hq' x hx
    · have : i' = k := by omega
      subst this
      rw [h0] at ho''
      cases ho''
      rw [List.getD_eq_getElem?_getD, List.getElem?_append_right (by omega), ← List.getD_eq_getElem?_getD] at hx
      have e : i' - acc.length = 0 := by omega
      rw [e] at hx
      simp only [List.getD_cons_zero, List.mem_eraseDups, List.mem_append, List.mem_flatMap] at hx
      rcases hx with hx | ⟨j, hj, hx⟩
      · exact hq' x hx
      · rcases Nat.lt_or_ge j i' with hjk | hjk
        · cases hoj : all[j]? with
          | none =>
            have h1 := List.getElem?_eq_none_iff.1 hoj
            have h2 := (List.getElem?_eq_some_iff.1 h0).1
            omega
          | some oj => exact h j oj hjk hoj (fun q hq2 => hclosed j oj hoj (hq' j hj) q hq2) x hx
        · rw [List.getD_eq_getElem?_getD, List.getElem?_eq_none (by omega)] at hx; cases hx
end Go.AM
namespace Go.AM
open Go.RowKit (Below)

section
variable {P : Program} {M : FuncId → List Bool} {N : Nat} {E : Entry}

theorem part_congr' : ∀ (hd : List Oper) (rs : List Res) {L M : Nat → Bool} (k : Nat) (st : St), (∀ j, k ≤ j → j < k + hd.length → L j = M j) → part hd rs L k st = part hd rs M k st
  | [], _, _, _, _, _, _ => rfl
  | _ :: _, [], _, _, _, _, _ => rfl
  | o :: os, r :: rs, L, M, k, st, h => by
    simp only [part, h k (Nat.le_refl _) (by simp)]
    exact part_congr' os rs (k + 1) _ fun j hj hj' => h j (by omega) (by simp; omega)

theorem killNew_cons (o : Oper) (r : List Oper) (st : St) : (∃ d, makesB o.op = true ∧ o.dst = some d ∧ killNew (o :: r) st = killNew r (st.kill d)) ∨ ((makesB o.op = false ∨ o.dst = none) ∧ killNew (o :: r) st = killNew r st) := by
  cases hm : makesB o.op with
  | false => exact .inr ⟨.inl rfl, by simp [killNew, hm]⟩
  | true =>
    cases hd : o.dst with
    | none => exact .inr ⟨.inr rfl, by simp [killNew, hd]⟩
    | some d => exact .inl ⟨d, rfl, rfl, by simp [killNew, hm, hd]⟩
theorem killNew_mem {s : Nat} : ∀ (hd : List Oper) (st : St), (∀ o ∈ hd, makesB o.op = true → o.dst ≠ some s) ∨ (killNew hd st).mem s = none
  | [], _ => .inl (fun _ h => by cases h)
  | o :: r, st => by
    have keep : ∀ (r : List Oper) (st : St), st.mem s = none → (killNew r st).mem s = none := by
      intro r
      induction r with
      | nil => intro st h; exact h
      | cons o r ih =>
        intro st h
        rcases killNew_cons o r st with ⟨d, _, _, e⟩ | ⟨_, e⟩
        · rw [e]
          refine ih _ ?_
          simp only [St.kill, St.del, St.mapF]
          split
          · rfl
          · exact h
        · rw [e]; exact ih _ h
    rcases killNew_cons o r st with ⟨d, hm, hdd, e⟩ | ⟨hm, e⟩
    · rw [e]
      by_cases hs : d = s
      · subst hs; exact .inr (keep r _ (kill_mem_self st d))
      · rcases killNew_mem r (st.kill d) with h | h
        · exact .inl fun o' ho hm' => by
            rcases List.mem_cons.1 ho with rfl | ho
            · rw [hdd]; intro e; cases e; exact hs rfl
            · exact h o' ho hm'
        · exact .inr h
    · rw [e]
      rcases killNew_mem r st with h | h
      · exact .inl fun o' ho hm' => by
          rcases List.mem_cons.1 ho with rfl | ho
          · rcases hm with hm | hm
            · rw [hm] at hm'; cases hm'
            · rw [hm]; intro e; cases e
          · exact h o' ho hm'
      · exact .inr h

theorem conc_killNew {a : Act} {w : World} {I : Gh} : ∀ (hd : List Oper) (st : St) (ρ : Pl), Conc N E st a w I ρ →
    ∀ ρ' : Pl, (∀ s, ρ' s = ρ s ∨ ∃ o ∈ hd, makesB o.op = true ∧ o.dst = some s) → Conc N E (killNew hd st) a w I ρ'
  | [], st, ρ, c, ρ', h => by
    have : ρ' = ρ := by funext s; rcases h s with h | ⟨o, ho, _⟩; exact h; cases ho
    rw [this]; exact c
  | o :: r, st, ρ, c, ρ', h => by
    rcases killNew_cons o r st with ⟨D, hm, hdd, e⟩ | ⟨hm, e⟩
    · rw [e]
      refine conc_killNew r _ (fun s => if s = D then ρ' D else ρ s) (c.kill D (fun s hs => by simp [hs])) ρ' fun s => ?_
      by_cases hs : s = D
      · left; simp [hs]
      · simp only [hs, if_false]
        rcases h s with h | ⟨o', ho, hm', he⟩
        · exact .inl h
        · rcases List.mem_cons.1 ho with rfl | ho
          · rw [hdd] at he; cases he; exact absurd rfl hs
          · exact .inr ⟨o', ho, hm', he⟩
    · rw [e]
      refine conc_killNew r _ ρ c ρ' fun s => ?_
      rcases h s with h | ⟨o', ho, hm', he⟩
      · exact .inl h
      · rcases List.mem_cons.1 ho with rfl | ho
        · rcases hm with hm | hm
          · rw [hm] at hm'; cases hm'
          · rw [hm] at he; cases he
        · exact .inr ⟨o', ho, hm', he⟩

theorem guardP_of_gsel {ops : List Oper} {st : St} {g : Option (Nat × Bool)} {b : Bool} (h : gsel ops st g = some b) : guardP ops st g (b = true) (b = false) := by
  unfold gsel at h
  cases g with
  | none => cases h; rfl
  | some p =>
    obtain ⟨j, b'⟩ := p
    simp only at h
    simp only [guardP]
    generalize st.frO (dstOf ops j) = c at h ⊢
    unfold guardQ
    split at h
    · cases h
      rename_i c
      cases b' <;> cases c <;> simp [ifP]
    · cases h; rfl
    · cases h

theorem gsel_congr {ops : List Oper} {st st' : St} {o : Oper} (h : ∀ u ∈ looks ops o, st.fr u = st'.fr u) : gsel ops st o.guard = gsel ops st' o.guard := by
  unfold gsel
  cases hg : o.guard with
  | none => rfl
  | some p =>
    obtain ⟨j, b⟩ := p
    simp only
    have : st.frO (dstOf ops j) = st'.frO (dstOf ops j) := by
      cases hd : dstOf ops j with
      | none => rfl
      | some t => exact h t (by unfold looks; rw [hg]; simp [hd])
    rw [this]

theorem ev_congr {ops : List Oper} {st st' : St} {o : Oper} (h : ∀ u ∈ looks ops o, st.fr u = st'.fr u) : ∀ x ∈ o.op.operands, st.ev x = st'.ev x := by
  intro x hx
  cases x with
  | tmp t => exact h t (by unfold looks; rw [List.mem_append]; left; rw [List.mem_filterMap]; exact ⟨.tmp t, by simpa using hx, rfl⟩)
  | const v => rfl
  | func f => rfl
  | global g => rfl

theorem distinct_ne : ∀ {hd : List Oper}, DistinctD hd → ∀ {i j : Nat} {o o' : Oper}, hd[i]? = some o → hd[j]? = some o' → i ≠ j → ∃ d d', o.dst = some d ∧ o'.dst = some d' ∧ d ≠ d'
  | [], _, i, _, _, _, h, _, _ => by simp at h
  | x :: r, hd, 0, 0, o, o', _, _, hne => absurd rfl hne
  | x :: r, hd, 0, j + 1, o, o', h1, h2, _ => by
    simp at h1 h2; subst h1
    obtain ⟨d, e, hx⟩ := hd.1
    obtain ⟨d', e', hne⟩ := hx o' (List.mem_of_getElem? h2)
    exact ⟨d, d', e, e', Ne.symm hne⟩
  | x :: r, hd, i + 1, 0, o, o', h1, h2, _ => by
    simp at h1 h2; subst h2
    obtain ⟨d, e, hx⟩ := hd.1
    obtain ⟨d', e', hne⟩ := hx o (List.mem_of_getElem? h1)
    exact ⟨d', d, e', e, hne⟩
  | x :: r, hd, i + 1, j + 1, o, o', h1, h2, hne => distinct_ne hd.2 (by simpa using h1) (by simpa using h2) (by omega)
theorem distinct_some : ∀ {hd : List Oper}, DistinctD hd → ∀ {i : Nat} {o : Oper}, hd[i]? = some o → ∃ d, o.dst = some d
  | [], _, i, _, h => by simp at h
  | x :: r, hd, 0, o, h => by simp at h; subst h; exact ⟨_, hd.1.choose_spec.1⟩
  | x :: r, hd, i + 1, o, h => distinct_some hd.2 (by simpa using h)

def lstd (listed : Array Bool) : Nat → Bool := fun j => listed.getD j false
def Fresh (hd : List Oper) (listed : Array Bool) (s : Nat) : Prop := ∃ j o, hd[j]? = some o ∧ makesB o.op = true ∧ lstd listed j = false ∧ o.dst = some s

/-- the invariant of the draw -/
def InvD (N : Nat) (E : Entry) (hd : List Oper) (rs : List Res) (st1 : St) (listed : Array Bool) (a : Act) (w : World) : Prop :=
  ∃ (I : Gh) (ρ : Pl), ∀ ρ' : Pl, (∀ s, ρ' s = ρ s ∨ Fresh hd listed s) → Conc N E (part hd rs (lstd listed) 0 st1) a w I ρ'

theorem frz_same {I : Gh} {w : World} (hh : Held I w) : frzNew I w w = I := by
  funext b o
  unfold frzNew
  split
  · rename_i e
    subst e
    have h1 : I w.heap.size o = none := free_new hh (Nat.le_refl _) o
    rw [h1]
    have h2 : w.cell? ⟨w.heap.size, o, none⟩ = none := by simp [World.cell?]
    rw [h2]
  · rfl
theorem fres_val {P : Program} {I : Gh} {ρ : Pl} {w w' : World} {K B : AV → Prop} {x : Value} (hh : Held I w) (h : FRes I ρ w K B x w') : (∃ v, K v ∧ Rep (frzNew I w w') ρ v x ∧ Grow I w (frzNew I w w') w') ∨ (∃ T π, B T ∧ TopOk I π [] T x ∧ Grow I w I w' ∧ NewTree I π w' w.heap.size T) := by
  rcases h with ⟨v, h1, h2, rfl⟩ | h | h
  · rw [frz_same hh]; exact .inl ⟨v, h1, h2, .refl hh⟩
  · exact .inl h
  · exact .inr h

theorem mem_keeps {hd : List Oper} {rs : List Res} {st1 : St} {mem0 : Nat → Option AV} (hkn : ∀ s, (∀ o ∈ hd, makesB o.op = true → o.dst ≠ some s) ∨ st1.mem s = none) (hm0 : ∀ s T, mem0 s = some T → st1.mem s = some T)
    (hmk : ∀ (j : Nat) (o : Oper) (r : Res), hd[j]? = some o → rs[j]? = some r → r.1 = true → makesB o.op = true) (L : Nat → Bool) : ∀ s T, mem0 s = some T → (part hd rs L 0 st1).mem s = some T := by
  intro s T h
  have h := hm0 s T h
  rcases hkn s with hk | hk
  · rw [part_mem hd rs 0 _ fun j o' r' h1 h2 _ h4 => hk o' (List.mem_of_getElem? h1) (hmk j o' r' h1 h2 h4)]; exact h
  · rw [hk] at h; cases h
/-- ONE STEP OF THE DRAW -/
theorem draw_step {ops : List Oper} {hd : List Oper} {rs : List Res} {st1 : St} {mem0 : Nat → Option AV} {listed : Array Bool} {a : Act} {w : World} {Q : Exit → Act → World → Prop} {o : Oper} {r : Res} {i : Nat}
    (hkn : ∀ s, (∀ o ∈ hd, makesB o.op = true → o.dst ≠ some s) ∨ st1.mem s = none) (hmem0 : ∀ s T, mem0 s = some T → (part hd rs (lstd listed) 0 st1).mem s = some T) (hdis : DistinctD hd) (hOk : OpOk N E o) (ho : hd[i]? = some o) (hr : rs[i]? = some r) (hun : lstd listed i = false) (hlen : rs.length = hd.length) (hmk : ∀ (j : Nat) (o : Oper) (r : Res), hd[j]? = some o → rs[j]? = some r → r.1 = true → makesB o.op = true)
    (hst : StepR P ops mem0 o (part hd rs (lstd listed) 0 st1) r) (hsz : i < listed.size)
    (inv : InvD N E hd rs st1 listed a w) :
    if Region.wanted o (yielded ops.toArray a.tmps) = true then o.wp P a w (InvD N E hd rs st1 (listed.setIfInBounds i true)) Q else InvD N E hd rs st1 (listed.setIfInBounds i true) (a.put o.dst undef) w := by
  obtain ⟨I, ρ, H⟩ := inv
  obtain ⟨hN, hroot⟩ := hOk
  obtain ⟨D, hD⟩ := distinct_some hdis ho
  have hself : ∀ s, ρ s = ρ s ∨ Fresh hd listed s := fun s => .inl rfl
  have c := H ρ hself
  have hne : ∀ j, j ≠ i → lstd (listed.setIfInBounds i true) j = lstd listed j := fun j hj => getD_set_ne false (Ne.symm hj)
  have hi : lstd (listed.setIfInBounds i true) i = true := by simp [lstd, hsz]
  have hset : part hd rs (lstd (listed.setIfInBounds i true)) 0 st1 = app1 o r (part hd rs (lstd listed) 0 st1) :=
    part_set hd rs 0 _ i o r hdis ho hr (by simpa using hun) (by simpa using hi) (fun j hj => hne j (by simpa using hj))
  have hfr : ∀ s, Fresh hd (listed.setIfInBounds i true) s → Fresh hd listed s ∧ s ≠ D := by
    rintro s ⟨j, o', h1, h2, h3, h4⟩
    have hji : j ≠ i := fun e => by subst e; rw [hi] at h3; cases h3
    refine ⟨⟨j, o', h1, h2, by rw [← hne j hji]; exact h3, h4⟩, ?_⟩
    obtain ⟨d, d', e1, e2, e3⟩ := distinct_ne hdis h1 ho hji
    rw [h4] at e1; rw [hD] at e2; cases e1; cases e2; exact e3
  have envs : ∀ {ρ' : Pl}, Conc N E (part hd rs (lstd listed) 0 st1) a w I ρ' → Env P I ρ' (part hd rs (lstd listed) 0 st1).ev mem0 a w := fun c' => ⟨c'.held, c'.ev, c'.mem.sub fun s T h => ⟨hmem0 s T h, rfl⟩⟩
  have hρ0 : ∀ ρ' : Pl, (∀ s, ρ' s = ρ s ∨ Fresh hd (listed.setIfInBounds i true) s) → ∀ s, ρ' s = ρ s ∨ Fresh hd listed s := fun ρ' h s => (h s).imp id fun h => (hfr s h).1
  rcases hst with ⟨hg, hy, hmb⟩ | ⟨hg, hr0⟩
  · have hw : Region.wanted o (yielded ops.toArray a.tmps) = true := by
      rcases guard_sound c ops o (guardP_of_gsel hg) with ⟨h, _⟩ | ⟨_, h⟩
      · exact h
      · cases h
    rw [if_pos hw]
    obtain ⟨dst, op, ty, pos, after, g⟩ := o
    simp only at hD hy hmb hg hroot hN
    subst hD
    unfold Yld at hy
    -- a value
    have one : ∀ {x : Value} {I' : Gh} {w' : World}, r.1 = false → Grow I w I' w' → (∀ ρ', (∀ s, ρ' s = ρ s ∨ Fresh hd listed s) → Rep I' ρ' r.2 x) → InvD N E hd rs st1 (listed.setIfInBounds i true) (a.put (some D) x) w' := by
      intro x I' w' h1 hg hrep
      refine ⟨I', ρ, fun ρ' hρ' => ?_⟩
      rw [hset]
      have e1 : app1 ⟨some D, op, ty, pos, after, g⟩ r (part hd rs (lstd listed) 0 st1) = (part hd rs (lstd listed) 0 st1).put (some D) r.2 := by
        unfold app1; rw [h1]
      rw [e1]
      exact ((H ρ' (hρ0 ρ' hρ')).grow hg).put _ hN (hrep ρ' (hρ0 ρ' hρ'))
    -- a tree
    have two : ∀ {x : Value} {I' : Gh} {w' : World} {π : Path → Option Plc}, r.1 = true → TopOk I' π [] r.2 x → Grow I w I' w' → NewTree I' π w' w.heap.size r.2 → InvD N E hd rs st1 (listed.setIfInBounds i true) (a.put (some D) x) w' := by
      intro x I' w' π h1 ht hg hT
      have hmake : makesB op = true := hmb h1
      have hmakeR : makesR op = true := by
        revert hmake
        cases op <;> simp [makesB, makesR]
        split <;> simp_all
      have hDf : Fresh hd listed D := ⟨i, _, ho, hmake, hun, rfl⟩
      have hDn : ¬ Fresh hd (listed.setIfInBounds i true) D := fun h => (hfr D h).2 rfl
      refine ⟨I', fun s => if s = D then π else ρ s, fun ρ' hρ' => ?_⟩
      rw [hset]
      have hρD : ρ' D = π := by
        rcases hρ' D with h | h
        · simpa using h
        · exact absurd h hDn
      have hρ1 : ∀ s, ρ' s = ρ s ∨ Fresh hd listed s := fun s => by
        by_cases hs : s = D
        · right; rw [hs]; exact hDf
        · rcases hρ' s with h | h
          · left; simpa [hs] using h
          · right; exact (hfr s h).1
      have c' := H ρ' hρ1
      have e1 : app1 ⟨some D, op, ty, pos, after, g⟩ r (part hd rs (lstd listed) 0 st1) = ((part hd rs (lstd listed) 0 st1).setMem D r.2).put (some D) (r.2.atoms D []) := by
        unfold app1; rw [h1]; rfl
      rw [e1]
      have hno : (part hd rs (lstd listed) 0 st1).mem D = none := by
        rw [part_mem hd rs 0 _ fun j o' r' h1 h2 h3 h4 => ?_]
        · rcases hkn D with hk | hk
          · exact absurd rfl (hk _ (List.mem_of_getElem? ho) hmake)
          · exact hk
        · have hji : j ≠ i := fun e => by subst e; rw [Nat.zero_add, hun] at h3; cases h3
          obtain ⟨d, d', q1, q2, q3⟩ := distinct_ne hdis h1 ho hji
          simp only [Option.some.injEq] at q2
          rw [q1, q2]
          intro e; cases e; exact q3 rfl
      exact ((c'.grow hg).setNew hρD hno ((hroot hmakeR).1 D rfl) c'.below.size hT fun b hb => c'.mem.owns_lt hb).put _ hN (top_rep (by rw [hρD]; exact ht))
    cases hcall : isCallV op with
    | true =>
      obtain ⟨x, args, ats, rfl⟩ : ∃ x args ats, op = .call ⟨.value x, args, ats⟩ := by
        unfold isCallV at hcall
        split at hcall
        · rename_i c0
          obtain ⟨callee, args, ats⟩ := c0
          cases callee with
          | value x => exact ⟨x, args, ats, rfl⟩
          | invoke r m => simp at hcall
          | builtin b => simp at hcall
        · cases hcall
      have e := envs c
      obtain ⟨f, vs, hrun, hc⟩ := calleeP_sound e.held e.mem (x := (part hd rs (lstd listed) 0 st1).ev x) (args := args.toList.map (part hd rs (lstd listed) 0 st1).ev) (vals := args.map a.eval) (K := fun v' => r = (false, v')) (B := fun T => r = (true, T)) hy (e.ev x) (by simp) (fun j hj hk => by simp at hj hk ⊢; exact e.ev _)
      unfold Oper.wp
      have he : execOp a.eval ⟨some D, .call ⟨.value x, args, ats⟩, ty, pos, after, g⟩ = (do let d ← Deferred.ofValue (a.eval x) (args.map a.eval); invoke d.target d.args) := rfl
      rw [he, hrun, Oper.upon_enter]
      refine hc.mono ?_
      rintro e' w' ⟨y, rfl, hret⟩
      rcases hret with ⟨v, I', hv, hrep, hgr⟩ | ⟨T, I', π, hT, ht, hgr, hnt⟩
      · exact one (by rw [hv]) hgr fun ρ' _ => by rw [hv]; exact .stat hrep
      · exact two (by rw [hT]) (by rw [hT]; exact ht) hgr (by rw [hT]; exact hnt)
    | false =>
      obtain ⟨x, w', hrun, hres⟩ := fop_run (d := some D) (t := ty) (pos := pos) (after := after) (g := g) (envs c) hcall hy
      refine wp_value hrun ?_
      rcases fres_val (P := P) c.held hres with ⟨v, hv, _, hgr⟩ | ⟨T, π, hT, ht, hgr, hnt⟩
      · refine one (by rw [hv]) hgr fun ρ' h => ?_
        obtain ⟨x1, w1, hrun1, hres1⟩ := fop_run (d := some D) (t := ty) (pos := pos) (after := after) (g := g) (envs (H ρ' h)) hcall hy
        rw [hrun] at hrun1
        cases hrun1
        rcases fres_val (P := P) c.held hres1 with ⟨v1, hv1, hrep1, _⟩ | ⟨T, π, hT, _⟩
        · rw [hv1]; exact hrep1
        · rw [hv] at hT; cases hT
      · exact two (by rw [hT]) (by rw [hT]; exact ht) hgr (by rw [hT]; exact hnt)
  · have hw : Region.wanted o (yielded ops.toArray a.tmps) = false := by
      rcases guard_sound c ops o (guardP_of_gsel hg) with ⟨_, h⟩ | ⟨h, _⟩
      · cases h
      · exact h
    rw [if_neg (by simp [hw])]
    refine ⟨I, ρ, fun ρ' hρ' => ?_⟩
    rw [hset, hr0]
    exact (H ρ' (hρ0 ρ' hρ')).put _ hN (.stat (.v _))

theorem depsB_spec {ops hd : List Oper} {tbl : List (List Nat)} (h : depsB ops hd tbl = true) {i : Nat} {o : Oper} (ho : hd[i]? = some o) :
    (∀ j ∈ bindOn o, j < i) ∧ ∀ u ∈ looks ops o, ∀ (j : Nat) (oj : Oper), hd[j]? = some oj → oj.dst = some u → j < i ∧ j ∈ tbl.getD i [] := by
  have hm : ∀ {j : Nat} {oj : Oper}, hd[j]? = some oj → (oj, j) ∈ hd.zipIdx := fun h => List.mem_zipIdx_iff_getElem?.2 h
  have h1 := List.all_eq_true.1 h (o, i) (hm ho)
  simp only [Bool.and_eq_true] at h1
  refine ⟨fun j hj => by simpa using List.all_eq_true.1 h1.1 j hj, fun u hu j oj hoj hd' => ?_⟩
  have h2 := List.all_eq_true.1 (List.all_eq_true.1 h1.2 u hu) (oj, j) (hm hoj)
  simpa [hd'] using h2

/-- WHATEVER ORDER IS DRAWN -/
theorem draw_go {ops HD TL : List Oper} {rs : List Res} {st0 : St} {K : St → Prop} {Q : Exit → Act → World → Prop} (hQ : ∀ a' w', AOut N E K a' w' → Q .normal a' w')
    (hOps : ∀ o ∈ ops, OpOk N E o) (hht : HD ++ TL = ops) (hok : drawOkG ops HD TL = true) (hlen : rs.length = HD.length)
    (hflow : FlowR P ops (killNew HD st0).mem HD rs (killNew HD st0))
    (hK : seqOps P M ops TL (part HD rs (fun _ => true) 0 (killNew HD st0)) K) :
    ∀ (m : Nat) (U : List Nat) (listed : Array Bool) (a : Act) (w : World), U.length = m → U.Nodup → (∀ j, j ∈ U ↔ j < HD.length ∧ lstd listed j = false) →
      HeadInv .any ops.toArray HD.length listed → InvD N E HD rs (killNew HD st0) listed a w → wpAny P .any ops.toArray Q (m + TL.length) listed a w := by
  unfold drawOkG at hok
  simp only [Bool.and_eq_true] at hok
  obtain ⟨⟨⟨hdis, hdeps⟩, htail⟩, hseq⟩ := hok
  have hdis := distinctB_spec hdis
  have hhd : ∀ {j : Nat} {o : Oper}, HD[j]? = some o → ops[j]? = some o := fun {j o} h => by
    rw [← hht, List.getElem?_append_left (List.getElem?_eq_some_iff.1 h).1]; exact h
  have hdh : ∀ {j : Nat}, j < HD.length → ops[j]? = HD[j]? := fun {j} h => by
    conv => lhs; rw [← hht]
    rw [List.getElem?_append_left h]
  have htl : ∀ j, TL[j]? = ops.toArray[HD.length + j]? := fun j => by
    rw [List.getElem?_toArray]
    have := List.getElem?_append_right (l₁ := HD) (l₂ := TL) (i := HD.length + j) (by omega)
    rw [hht] at this
    rw [this]; congr 1; omega
  have hol : ops.length = HD.length + TL.length := by
    conv => lhs; rw [← hht]
    rw [List.length_append]
  have hmk : ∀ (hd : List Oper) (rs : List Res) (st : St), FlowR P ops (killNew HD st0).mem hd rs st → ∀ (j : Nat) (o : Oper) (r : Res), hd[j]? = some o → rs[j]? = some r → r.1 = true → makesB o.op = true := by
    intro hd rs st h j o r h1 h2 h3
    rcases flow_step 0 h j o r h1 h2 with ⟨_, _, hm⟩ | ⟨_, hr⟩
    · exact hm h3
    · rw [hr] at h3; cases h3
  intro m
  induction m with
  | zero =>
    intro U listed a w hU _ hUm inv ⟨I, ρ, H⟩
    have hU0 : U = [] := List.eq_nil_of_length_eq_zero hU
    have hall : ∀ j, j < HD.length → lstd listed j = true := fun j hj => by
      cases h : lstd listed j with
      | true => rfl
      | false => have := (hUm j).2 ⟨hj, h⟩; rw [hU0] at this; cases this
    have hlist : listed = firstN ops.length HD.length := by
      apply Array.ext
      · simp [firstN, inv.size]
      · intro j h1 h2
        have hj : j < ops.length := by simpa [inv.size] using h1
        simp only [firstN, Array.getElem_map, Array.getElem_range]
        by_cases hjn : j < HD.length
        · have := hall j hjn
          simp only [lstd, Array.getD_eq_getD_getElem?, Array.getElem?_eq_getElem h1, Option.getD_some] at this
          rw [this]; simp [hjn]
        · have := inv.tail j (by omega) (by simpa using hj)
          simp only [Array.getD_eq_getD_getElem?, Array.getElem?_eq_getElem h1, Option.getD_some] at this
          rw [this]; simp [hjn]
    have hc := H ρ fun s => .inl rfl
    rw [part_congr' HD rs (M := fun _ => true) 0 _ fun j _ hj => hall j (by simpa using hj)] at hc
    rw [Nat.zero_add]
    refine wpAny_of_seq TL HD.length listed a w htl (by rw [hlist]; exact hseq) ?_
    exact seqOps_sound hQ ops TL _ a w (fun o ho => hOps o (by rw [← hht]; exact List.mem_append_right _ ho)) hK ⟨I, ρ, hc⟩
  | succ m ih =>
    intro U listed a w hU hnd hUm inv hinv
    rw [show m + 1 + TL.length = (m + TL.length) + 1 by omega]
    have hun : ∃ i0, i0 < HD.length ∧ lstd listed i0 = false := by
      cases U with
      | nil => cases hU
      | cons x _ => exact ⟨x, (hUm x).1 (by simp)⟩
    -- the first that is not listed is ready
    have hmin : ∃ i0, i0 < HD.length ∧ lstd listed i0 = false ∧ ∀ j, j < i0 → lstd listed j = true := by
      obtain ⟨i0, h1, h2⟩ := hun
      induction i0 using Nat.strongRecOn with
      | _ i0 ih0 =>
        by_cases hx : ∃ j, j < i0 ∧ lstd listed j = false
        · obtain ⟨j, hj, hj2⟩ := hx
          exact ih0 j hj (by omega) hj2
        · refine ⟨i0, h1, h2, fun j hj => ?_⟩
          cases h : lstd listed j with
          | true => rfl
          | false => exact absurd ⟨j, hj, h⟩ hx
    have hin : ∀ {j : Nat}, j < HD.length → j < listed.size := fun h => by rw [inv.size]; simp; omega
    refine ⟨fun h0 => ?_, fun i hi => ?_⟩
    · obtain ⟨i0, h1, h2, h3⟩ := hmin
      have ho : HD[i0]? = some (HD[i0]) := List.getElem?_eq_getElem h1
      have : i0 ∈ Region.ready .any ops.toArray listed := by
        rw [mem_ready]
        refine ⟨getD_in (hin h1) h2, HD[i0], by rw [List.getElem?_toArray]; exact hhd ho, fun e he hb => ?_⟩
        exact h3 _ ((depsB_spec hdeps ho).1 e.on (mem_bindOn.2 ⟨e, he, hb, rfl⟩))
      rw [h0] at this; cases this
    · have hin' : i < HD.length := by
        rcases Nat.lt_or_ge i HD.length with h | h
        · exact h
        · obtain ⟨_, oi, hoi, _⟩ := mem_ready.1 hi
          have hlt := (Array.getElem?_eq_some_iff.1 hoi).1
          simp only [List.size_toArray] at hlt
          cases htl' : TL with
          | nil => rw [htl'] at hol; simp at hol; omega
          | cons o r =>
            rw [htl'] at htail hol
            simp only [Bool.and_eq_true] at htail
            obtain ⟨i0, h1, h2⟩ := hun
            exact absurd hi (tail_waits htail.1 htail.2 (by simp; simp at hol; omega) inv _ i0 rfl h1 (getD_in (hin h1) h2) i h)
      obtain ⟨hiun, oi, hoi, hall⟩ := mem_ready.1 hi
      have ho : HD[i]? = some oi := by rw [← hdh hin', ← List.getElem?_toArray]; exact hoi
      have hr : rs[i]? = some (rs[i]'(by omega)) := List.getElem?_eq_getElem _
      generalize rs[i]'(by omega) = r at hr
      have hst := flow_step 0 hflow i oi r ho hr
      have hun' : lstd listed i = false := getD_both hiun
      obtain ⟨hb, hl⟩ := depsB_spec hdeps ho
      have hclosed : ∀ j o, HD[j]? = some o → lstd listed j = true → ∀ q ∈ bindOn o, lstd listed q = true := fun j o h1 h2 q hq => by
        obtain ⟨e, he, hbd, rfl⟩ := mem_bindOn.1 hq
        exact inv.closed j o (by rw [List.getElem?_toArray]; exact hhd h1) h2 e he hbd
      have hlook : ∀ u ∈ looks ops oi, (part HD rs (fun j => decide (j < 0 + i)) 0 (killNew HD st0)).fr u = (part HD rs (lstd listed) 0 (killNew HD st0)).fr u := fun u hu => by
        refine part_fr HD rs 0 _ _ rfl fun j oj h1 h2 => ?_
        obtain ⟨h3, h4⟩ := hl u hu j oj h1 h2
        have := ancT_spec (lstd listed) HD hclosed HD [] 0 rfl (fun j => by simp) (fun i o hi => by omega) i oi (by simpa using hin') ho (fun q hq => by
          obtain ⟨e, he, hbd, rfl⟩ := mem_bindOn.1 hq
          exact hall e he hbd) j h4
        rw [Nat.zero_add, this]; simp [h3]
      have hst' : StepR P ops (killNew HD st0).mem oi (part HD rs (lstd listed) 0 (killNew HD st0)) r := by
        unfold StepR at hst ⊢
        rw [← gsel_congr hlook]
        rcases hst with ⟨h1, h2, h3⟩ | h
        · exact .inl ⟨h1, fop_congr (ev_congr hlook) h2, h3⟩
        · exact .inr h
      have step := draw_step (Q := Q) (fun s => killNew_mem HD st0) (mem_keeps (fun s => killNew_mem HD st0) (fun _ _ h => h) (hmk _ _ _ hflow) _) hdis (hOps oi (by rw [← hht]; exact List.mem_append_left _ (List.mem_of_getElem? ho))) ho hr hun' hlen (hmk _ _ _ hflow) hst' (hin hin') hinv
      have next : ∀ a' w', InvD N E HD rs (killNew HD st0) (listed.setIfInBounds i true) a' w' → wpAny P .any ops.toArray Q (m + TL.length) (listed.setIfInBounds i true) a' w' := fun a' w' h => by
        refine ih (U.erase i) _ a' w' (by rw [List.length_erase_of_mem ((hUm i).2 ⟨hin', hun'⟩), hU]; rfl) (hnd.erase i) (fun j => ?_) (inv.set hi hin') h
        rw [hnd.mem_erase_iff, hUm]
        by_cases hj : j = i
        · subst hj
          simp [lstd, hin hin']
        · have : lstd (listed.setIfInBounds i true) j = lstd listed j := getD_set_ne false (Ne.symm hj)
          rw [this]; simp [hj]
      unfold wpOp
      simp only [hoi]
      split
      · rename_i hw
        rw [if_pos hw] at step
        exact .inl (Oper.wp_mono next step)
      · rename_i hw
        rw [if_neg hw] at step
        exact next _ _ step

theorem draw_soundG {id : Nat} {ops : Array Oper} {HD TL : List Oper} {st : St} {a : Act} {w : World} {K : St → Prop} {Q : Exit → Act → World → Prop} (hQ : ∀ a' w', AOut N E K a' w' → Q .normal a' w') (hm : P.follows .mixedOrders = true)
    (hOps : ∀ o ∈ ops.toList, OpOk N E o) (hht : HD ++ TL = ops.toList) (hok : drawOkG ops.toList HD TL = true) (h : drawOps P M ops.toList HD TL st K) (hc : CC N E st a w) : (Code.region id ops true).wp P Q a w := by
  obtain ⟨ops⟩ := ops
  simp only at hOps hok h hht
  refine wp_region_any hm ?_
  obtain ⟨rs, hflow, hK⟩ := flow_extract HD 0 _ h
  obtain ⟨I, ρ, c⟩ := hc
  have c' : Conc N E st a { w with drawn := w.drawn + 1 } I ρ := c.grow ⟨⟨fun b o x h => c.held.cell b o x h, c.held.base⟩, ⟨rfl, rfl, rfl, Nat.le_refl _, fun _ _ _ => rfl⟩, fun _ _ _ => rfl⟩
  have hol : ops.length = HD.length + TL.length := by
    conv => lhs; rw [← hht]
    rw [List.length_append]
  have hz : ∀ j, lstd (Array.replicate ops.toArray.size false) j = false := fun j => getD_replicate_false _ _
  have := draw_go (P := P) (M := M) (N := N) (E := E) hQ hOps hht hok (flow_len hflow) hflow hK HD.length (List.range HD.length) (Array.replicate ops.toArray.size false) a { w with drawn := w.drawn + 1 }
    List.length_range List.nodup_range (fun j => by rw [hz]; simp) ⟨by simp, fun j oj _ h => Bool.noConfusion ((hz j).symm.trans h), fun t _ ht => getD_in (by simpa using ht) (hz t)⟩
    ⟨I, ρ, fun ρ' hρ => by
      rw [part_none _ _ _ _ fun j _ => hz j]
      exact conc_killNew HD st ρ c' ρ' fun s => (hρ s).imp (fun h => h) fun ⟨j, o, h1, h2, _, h4⟩ => ⟨o, List.mem_of_getElem? h1, h2, h4⟩⟩
  have e : ops.toArray.size = HD.length + TL.length := by simpa using hol
  rw [← e] at this
  exact this
theorem draw_sound {id : Nat} {ops : Array Oper} {st : St} {a : Act} {w : World} {K : St → Prop} {Q : Exit → Act → World → Prop} (hQ : ∀ a' w', AOut N E K a' w' → Q .normal a' w') (hm : P.follows .mixedOrders = true)
    (hd : ∀ o ∈ ops.toList, OpOk N E o) (hok : drawOk ops.toList = true) (h : drawOps P M ops.toList (headOps ops.toList) (tailOps ops.toList) st K) (hc : CC N E st a w) : (Code.region id ops true).wp P Q a w :=
  draw_soundG hQ hm hd (head_tail ops.toList) hok h hc
end
end Go.AM
namespace Go.AM
open Go.RowKit (Below)

/-- a frame in which no handle lies strictly below root t -/
def Clean (t : Nat) (st : St) : Prop := ∀ u, (st.fr u).mapH (belowF t []) = st.fr u
def frV (o : Oper) (r : Res) : AV := match r.1 with | true => r.2.atoms (o.dst.getD 0) [] | false => r.2
def CleanR (t : Nat) : List Oper → List Res → Prop
  | o :: os, r :: rs => (frV o r).mapH (belowF t []) = frV o r ∧ CleanR t os rs
  | _, _ => True

theorem belowF_some {t s s' : Nat} {p p' : Path} (h : belowF t [] s p = some (s', p')) : s' = s ∧ p' = p ∧ (s = t → p = []) := by
  unfold belowF at h
  split at h
  · rename_i e
    simp only [isPref] at h
    split at h
    · rename_i hl
      cases h
      refine ⟨rfl, rfl, fun _ => ?_⟩
      simp at hl; exact hl
    · cases h
  · rename_i e
    cases h
    exact ⟨rfl, rfl, fun h => (e h).elim⟩

mutual
theorem mapH_idem {f : Nat → Path → Option (Nat × Path)} (hf : ∀ s p s' p', f s p = some (s', p') → s' = s ∧ p' = p) : ∀ a : AV, (a.mapH f).mapH f = a.mapH f
  | .ref s p z o n => by
    simp only [AV.mapH]
    cases h : f s p with
    | none => rfl
    | some sp => obtain ⟨h1, h2⟩ := hf s p sp.1 sp.2 h; simp only [AV.mapH, h1, h2, h]
  | .loc s p i j => by
    simp only [AV.mapH]
    cases h : f s p with
    | none => rfl
    | some sp => obtain ⟨h1, h2⟩ := hf s p sp.1 sp.2 h; simp only [AV.mapH, h1, h2, h]
  | .mref s p => by
    simp only [AV.mapH]
    cases h : f s p with
    | none => rfl
    | some sp => obtain ⟨h1, h2⟩ := hf s p sp.1 sp.2 h; simp only [AV.mapH, h1, h2, h]
  | .agg fs => by simp only [AV.mapH, mapHL_idem hf fs]
  | .tup fs => by simp only [AV.mapH, mapHL_idem hf fs]
  | .fn g caps => by simp only [AV.mapH, mapHL_idem hf caps]
  | .lst z es => by simp only [AV.mapH, mapHL_idem hf es]
  | .any => rfl
  | .v x => rfl
  | .sl z es => rfl
  | .ep cs => rfl
  | .ifc => rfl
  | .tr _ _ => rfl
  | .pt _ _ => rfl
  | .mt _ _ => rfl
theorem mapHL_idem {f : Nat → Path → Option (Nat × Path)} (hf : ∀ s p s' p', f s p = some (s', p') → s' = s ∧ p' = p) : ∀ l : List AV, AV.mapHL f (AV.mapHL f l) = AV.mapHL f l
  | [] => rfl
  | a :: r => by simp only [AV.mapHL, mapH_idem hf a, mapHL_idem hf r]
end

theorem clean_base (t : Nat) (st : St) : Clean t (st.mapF (belowF t [])) := fun u => mapH_idem (fun _ _ _ _ h => ⟨(belowF_some h).1, (belowF_some h).2.1⟩) _
theorem app1_fr (o : Oper) (r : Res) (st : St) (u : Nat) : (app1 o r st).fr u = if o.dst = some u then frV o r else st.fr u := by
  unfold app1 frV
  obtain ⟨b, v⟩ := r
  cases b <;> cases hd : o.dst <;> simp [St.put, St.addN, St.setMem]
  all_goals (split <;> split <;> first | rfl | (rename_i a b; exact absurd a.symm b) | (rename_i a b; exact absurd b.symm a) | (rename_i a b; subst a; rfl))
theorem clean_app1 {t : Nat} {o : Oper} {r : Res} {st : St} (h : Clean t st) (hr : (frV o r).mapH (belowF t []) = frV o r) : Clean t (app1 o r st) := fun u => by
  rw [app1_fr]
  split
  · exact hr
  · exact h u
theorem clean_part {t : Nat} : ∀ (hd : List Oper) (rs : List Res) (L : Nat → Bool) (k : Nat) (st : St), Clean t st → CleanR t hd rs → Clean t (part hd rs L k st)
  | [], _, _, _, _, h, _ => h
  | _ :: _, [], _, _, _, h, _ => h
  | o :: os, r :: rs, L, k, st, h, hc => by
    simp only [part]
    refine clean_part os rs L (k + 1) _ ?_ hc.2
    split
    · exact clean_app1 h hc.1
    · exact h
theorem cleanR_append {t : Nat} : ∀ {h1 : List Oper} {r1 : List Res} {h2 : List Oper} {r2 : List Res}, r1.length = h1.length → CleanR t h1 r1 → CleanR t h2 r2 → CleanR t (h1 ++ h2) (r1 ++ r2)
  | [], [], _, _, _, _, h => h
  | _ :: _, _ :: _, _, _, hl, h, h' => ⟨h.1, cleanR_append (by simpa using hl) h.2 h'⟩
  | [], _ :: _, _, _, hl, _, _ => by simp at hl
  | _ :: _, [], _, _, hl, _, _ => by simp at hl

theorem flowC_extract {P : Program} {ops : List Oper} {t : Nat} {mem0 : Nat → Option AV} {K : St → Prop} : ∀ (hd : List Oper) (k : Nat) (st : St), flowC P ops t mem0 hd st K → ∃ rs, FlowR P ops mem0 hd rs st ∧ CleanR t hd rs ∧ K (part hd rs (fun _ => true) k st)
  | [], _, st, h => ⟨[], trivial, trivial, h⟩
  | o :: os, k, st, h => by
    rcases guardP_sel h with ⟨hg, h1⟩ | ⟨hg, h1⟩
    · obtain ⟨⟨b, v⟩, h2, h3, h4⟩ := fop_pick h1
      cases b with
      | false =>
        obtain ⟨rs, h5, h6, h7⟩ := flowC_extract os (k + 1) _ h3.2
        exact ⟨(false, v) :: rs, ⟨.inl ⟨hg, h2, h4⟩, h5⟩, ⟨h3.1, h6⟩, h7⟩
      | true =>
        obtain ⟨rs, h5, h6, h7⟩ := flowC_extract os (k + 1) _ h3.2
        exact ⟨(true, v) :: rs, ⟨.inl ⟨hg, h2, h4⟩, h5⟩, ⟨h3.1, h6⟩, h7⟩
    · obtain ⟨rs, h5, h6, h7⟩ := flowC_extract os (k + 1) _ h1
      exact ⟨(false, .un) :: rs, ⟨.inr ⟨hg, rfl⟩, h5⟩, ⟨rfl, h6⟩, h7⟩

theorem part_append : ∀ (h1 : List Oper) (r1 : List Res) (h2 : List Oper) (r2 : List Res) (L : Nat → Bool) (k : Nat) (st : St), r1.length = h1.length → part (h1 ++ h2) (r1 ++ r2) L k st = part h2 r2 L (k + h1.length) (part h1 r1 L k st)
  | [], [], _, _, _, _, _, _ => rfl
  | o :: os, r :: rs, h2, r2, L, k, st, hl => by
    simp only [List.cons_append, part, List.length_cons]
    rw [part_append os rs h2 r2 L (k + 1) _ (by simpa using hl)]
    congr 1; omega
  | [], _ :: _, _, _, _, _, _, hl => by simp at hl
  | _ :: _, [], _, _, _, _, _, hl => by simp at hl

theorem stepR_congr {P : Program} {ops : List Oper} {mem0 : Nat → Option AV} {o : Oper} {st st' : St} {r : Res} (h : ∀ u, st.fr u = st'.fr u) (hs : StepR P ops mem0 o st r) : StepR P ops mem0 o st' r := by
  unfold StepR at hs ⊢
  rw [← gsel_congr (st := st) fun u _ => h u]
  rcases hs with ⟨h1, h2, h3⟩ | h
  · exact .inl ⟨h1, fop_congr (ev_congr (ops := ops) fun u _ => h u) h2, h3⟩
  · exact .inr h

theorem part_setMem {t : Nat} {X : AV} : ∀ (hd : List Oper) (rs : List Res) (L : Nat → Bool) (k : Nat) (st : St), (∀ (j : Nat) (o : Oper) (r : Res), hd[j]? = some o → rs[j]? = some r → r.1 = true → o.dst ≠ some t) → part hd rs L k (st.setMem t X) = (part hd rs L k st).setMem t X
  | [], _, _, _, _, _ => rfl
  | _ :: _, [], _, _, _, _ => rfl
  | o :: os, r :: rs, L, k, st, h => by
    have e : app1 o r (st.setMem t X) = (app1 o r st).setMem t X := by
      unfold app1
      obtain ⟨b, v⟩ := r
      cases b with
      | false => cases hd : o.dst <;> simp [St.put, St.setMem]
      | true =>
        cases hd : o.dst with
        | none => rfl
        | some d =>
          have hne : d ≠ t := fun e => h 0 o (true, v) rfl rfl rfl (by rw [hd, e])
          simp only [St.addN, St.put, St.setMem]
          congr 1
          funext i
          by_cases c1 : i = d <;> by_cases c2 : i = t <;> simp [c1, c2] <;> (intro e2; subst e2; first | exact absurd c1 hne | exact absurd c2.symm (fun e => hne e.symm) | simp_all)
    simp only [part]
    rw [← part_setMem os rs L (k + 1) _ fun j o' r' h1 h2 h3 => h (j + 1) o' r' (by simpa using h1) (by simpa using h2) h3]
    split
    · rw [e]
    · rfl
theorem setMem_setMem (st : St) (t : Nat) (X Y : AV) : (st.setMem t X).setMem t Y = st.setMem t Y := by
  simp only [St.setMem]
  congr 1
  funext i
  split <;> rfl
section
variable {P : Program} {M : FuncId → List Bool} {N : Nat} {E : Entry}

/-- the call, wherever it is drawn -/
theorem pv_call {S : St} {a : Act} {w : World} {I : Gh} {ρ : Pl} {Fr : Nat → Prop} {t z : Nat} {x0 : AV} (hFt : ¬ Fr t) (H : ∀ ρ' : Pl, (∀ s, ρ' s = ρ s ∨ Fr s) → Conc N E S a w I ρ') (hT0 : S.mem t = some (.pt z x0)) (hcl : Clean t S)
    {D : Nat} (hN : D < N) {f : FuncId} {rest : List AV} {X r : AV} (hspec : SpecX P f (.pt z x0 :: rest) [some X] r) (hnb : r.nodeB = false) (hb : AV.bearsL rest = false) {vals : Array Value} (hn : vals.size = rest.length + 1)
    (hr : ∀ j (hj : j < (AV.loc t [] 0 0 :: rest).length) (hk : j < vals.size), Rep I ρ ((AV.loc t [] 0 0 :: rest)[j]) (vals[j])) :
    HasBody P f ∧ Calls P f vals w fun e w' => ∃ x, e = .returned x ∧ ∃ (I' : Gh) (ρ2 : Pl), ∀ ρ' : Pl, (∀ s, ρ' s = ρ2 s ∨ Fr s) → Conc N E ((S.setMem t X).put (some D) r) (a.put (some D) x) w' I' ρ' := by
  obtain ⟨hbody, _, hosig, hspec⟩ := hspec
  refine ⟨hbody, ?_⟩
  have c := H ρ fun s => .inl rfl
  have hrs : ∀ j (hj : j < rest.length) (hk : j + 1 < vals.size), RepS I (rest[j]) (vals[j + 1]) := fun j hj hk => nb_stat (hr (j + 1) (by simpa using hj) hk) (bearsL_get hb j hj)
  let Q0 : Pl := fun i => if i = 0 then ρ t else fun _ => none
  have hnode : ∀ (i : Nat) (T : AV) (p : Path), (AV.pt z x0 :: rest)[i]? = some T → (T.at p).isNode = true → i = 0 ∧ T = .pt z x0 := by
    intro i T p hi hnn
    cases i with
    | zero => simp at hi; exact ⟨rfl, hi.symm⟩
    | succ i =>
      simp only [List.getElem?_cons_succ] at hi
      obtain ⟨hlt, rfl⟩ := List.getElem?_eq_some_iff.1 hi
      rw [rs_at (hrs i hlt (by omega)) p] at hnn; cases hnn
  have hsepA : Sep I Q0 w (fun i => (AV.pt z x0 :: rest)[i]?) := by
    refine ⟨fun i T p hi => ?_, fun i T p k hi h1 h2 o => ?_, fun i T p k i2 T2 p2 k2 hi h1 h2 hi2 h1' h2' he => ?_⟩
    · cases hnn : (T.at p).isNode with
      | false => exact node_false hnn
      | true =>
        obtain ⟨rfl, rfl⟩ := hnode i T p hi hnn
        exact c.mem.row t _ p hT0
    · obtain ⟨rfl, rfl⟩ := hnode i T p hi h1
      exact c.mem.free t _ p k hT0 h1 h2 o
    · obtain ⟨rfl, rfl⟩ := hnode i T p hi h1
      obtain ⟨rfl, rfl⟩ := hnode i2 T2 p2 hi2 h1'
      exact ⟨rfl, (c.mem.inj t _ p k t _ p2 k2 hT0 h1 h2 hT0 h1' h2' he).2⟩
  have hownA : ∀ b, Owns Q0 (fun i => (AV.pt z x0 :: rest)[i]?) b → ∃ p k, ((AV.pt z x0).at p).isNode = true ∧ ρ t p = some k ∧ k.b = b := by
    rintro b ⟨i, T, p, k, h1, h2, h3, rfl⟩
    obtain ⟨rfl, rfl⟩ := hnode i T p h1 h2
    exact ⟨p, k, h2, h3, rfl⟩
  refine (hspec I Q0 w vals c.held (by simpa using hn) hsepA fun j hj hk => ?_).mono ?_
  · cases j with
    | zero =>
      have h0 := hr 0 (by simp) hk
      simp only [List.getElem_cons_zero] at h0 ⊢
      have hd := node_hdr (J := I) (v := vals[0]) (c := .pt z x0) c.mem (by simp [nodeAt, hT0]; rfl) rfl h0
      exact .inl ⟨rfl, hd⟩
    | succ j =>
      simp only [List.getElem_cons_succ]
      exact rs_top (hrs j (by simpa using hj) hk) _ _
  rintro e w' ⟨I1, π1, x, rfl, hI1, hs1, ht1, hfix, hb1, hk1, hnew⟩
  refine ⟨x, rfl, I1, fun s => if s = t then π1 0 else ρ s, fun ρ' hρ' => ?_⟩
  have hXs : X.sig = (AV.pt z x0).sig := hosig 0 X rfl
  obtain ⟨x1, rfl⟩ : ∃ x1, X = .pt z x1 := by
    cases X with
    | pt z' x1 => simp [AV.sig, AV.sig1] at hXs; exact ⟨x1, by rw [hXs]⟩
    | _ => simp [AV.sig, AV.sig1] at hXs
  have ht' : ρ' t = π1 0 := by
    rcases hρ' t with h | h
    · simpa using h
    · exact (hFt h).elim
  let ρ0 : Pl := fun s => if s = t then ρ t else ρ' s
  have hρ0 : ∀ s, ρ0 s = ρ s ∨ Fr s := fun s => by
    by_cases hs : s = t
    · left; simp [ρ0, hs]
    · rcases hρ' s with h | h
      · left; simp only [ρ0, hs, if_false] at h ⊢; exact h
      · exact .inr h
  have c0 := H ρ0 hρ0
  have e0t : ρ0 t = ρ t := by simp [ρ0]
  have e0n : ∀ s, s ≠ t → ρ0 s = ρ' s := fun s h => by simp [ρ0, h]
  have hnd : ((AV.pt z x0).at []).isNode = true := rfl
  have htop : π1 0 [] = ρ t [] := hfix 0 (.pt z x1) rfl [] rfl
  have hlt : ∀ p k, ((AV.pt z x0).at p).isNode = true → ρ t p = some k → k.b < w.heap.size := fun p k h1 h2 => c.mem.lt hT0 h1 h2
  -- other blocks stand as they stood
  have hout : ∀ s T p k, S.mem s = some T → s ≠ t → (T.at p).isNode = true → ρ0 s p = some k → ¬ Owns Q0 (fun i => (AV.pt z x0 :: rest)[i]?) k.b := by
    intro s T p k h1 h2 h3 h4 h5
    obtain ⟨p', k', g1, g2, g3⟩ := hownA _ h5
    exact h2 (c0.mem.inj s T p k t _ p' k' h1 h3 h4 hT0 g1 (by rw [e0t]; exact g2) g3.symm).1
  have hext : outMem (AV.pt z x0 :: rest).length [some (.pt z x1)] r 0 = some (.pt z x1) := by simp [outMem]
  have hnew0 : ∀ p k, ((AV.pt z x1).at p).isNode = true → π1 0 p = some k → (∃ p' k', ((AV.pt z x0).at p').isNode = true ∧ ρ t p' = some k' ∧ k'.b = k.b) ∨ w.heap.size ≤ k.b := by
    intro p k h1 h2
    rcases hnew k.b ⟨0, _, p, k, hext, h1, h2, rfl⟩ with q | q
    · exact .inl (hownA _ q)
    · exact .inr q
  have hle : ∀ b o y, I b o = some y → I1 b o = some y := fun b o y hy => (hk1 b o (c.held.lt hy)).trans hy
  have hm : ∀ {s T'}, (S.setMem t (.pt z x1)).mem s = some T' → (s = t ∧ T' = .pt z x1) ∨ (s ≠ t ∧ S.mem s = some T') := by
    intro s T' h
    simp only [St.setMem] at h
    split at h
    · rename_i e; cases h; exact .inl ⟨e, rfl⟩
    · rename_i e; exact .inr ⟨e, h⟩
  have hcross : ∀ p k s T p' k', ((AV.pt z x1).at p).isNode = true → π1 0 p = some k → S.mem s = some T → s ≠ t → (T.at p').isNode = true → ρ0 s p' = some k' → k.b ≠ k'.b := by
    intro p k s T p' k' h1 h2 h3 h4 h5 h6 he
    rcases hnew0 p k h1 h2 with ⟨p2, k2, g1, g2, g3⟩ | g
    · exact h4 (c0.mem.inj s T p' k' t _ p2 k2 h3 h5 h6 hT0 g1 (by rw [e0t]; exact g2) (by rw [g3, he])).1
    · have := c0.mem.lt h3 h5 h6; omega
  have cc : Conc N E (S.setMem t (.pt z x1)) a w' I1 ρ' := by
    refine ⟨hI1, c0.below.trans (hb1.mono c0.below.size fun k hk hq => ?_), fun b o hb' => (hk1 b o (Nat.lt_of_lt_of_le hb' c0.below.size)).trans (c0.keeps b o hb'), c0.size, c0.defers, fun i => ?_,
      ⟨fun s T p h => ?_, fun s T p k h h1 h2 o => ?_, fun s T1 p k s' T2 p' k' h h1 h2 h' h1' h2' he => ?_⟩, fun b hb' => ?_, fun i c' T' q h1 hT' h3 => ?_⟩
    · obtain ⟨p, k', g1, g2, g3⟩ := hownA k hq
      rcases c0.lo k ⟨t, _, p, k', hT0, g1, by rw [e0t]; exact g2, g3⟩ with h | h
      · omega
      · exact h
    · have h1 := rep_mapH (ρ' := ρ') (f := belowF t []) (fun s p s' p' hf => by
        obtain ⟨rfl, rfl, h3⟩ := belowF_some hf
        by_cases hs : s' = t
        · subst hs
          rw [h3 rfl, ht', htop, e0t]
        · rw [e0n s' hs]) (c0.fr i)
      rw [hcl i] at h1
      exact h1.mono hle
    · rcases hm h with ⟨rfl, rfl⟩ | ⟨hs, h⟩
      · rw [ht']; exact hs1.row 0 _ p hext
      · rw [← e0n s hs]
        exact NodeOk.mono hle (fun k hk1' hk2 => hb1.block k.b (c0.mem.lt h hk1' hk2) (hout s T p k h hs hk1' hk2)) (c0.mem.row s T p h)
    · rcases hm h with ⟨rfl, rfl⟩ | ⟨hs, h⟩
      · rw [ht'] at h2; exact hs1.free 0 _ p k hext h1 h2 o
      · rw [← e0n s hs] at h2
        rw [hk1 k.b o (c0.mem.lt h h1 h2)]; exact c0.mem.free s T p k h h1 h2 o
    · rcases hm h with ⟨e1, e2⟩ | ⟨hs, g⟩
      · rcases hm h' with ⟨e3, e4⟩ | ⟨hs', g'⟩
        · rw [e1, ht'] at h2; rw [e3, ht'] at h2'
          rw [e2] at h1; rw [e4] at h1'
          exact ⟨e1.trans e3.symm, (hs1.inj 0 _ p k 0 _ p' k' hext h1 h2 hext h1' h2' he).2⟩
        · rw [e1, ht'] at h2; rw [← e0n s' hs'] at h2'
          rw [e2] at h1
          exact (hcross p k s' T2 p' k' h1 h2 g' hs' h1' h2' he).elim
      · rcases hm h' with ⟨e3, e4⟩ | ⟨hs', g'⟩
        · rw [e3, ht'] at h2'; rw [← e0n s hs] at h2
          rw [e4] at h1'
          exact (hcross p' k' s T1 p k h1' h2' g hs h1 h2 he.symm).elim
        · rw [← e0n s hs] at h2; rw [← e0n s' hs'] at h2'
          exact c0.mem.inj s T1 p k s' T2 p' k' g h1 h2 g' h1' h2' he
    · obtain ⟨s, T, p, k, h1, h2, h3, rfl⟩ := hb'
      rcases hm h1 with ⟨rfl, rfl⟩ | ⟨hs, h1⟩
      · rw [ht'] at h3
        rcases hnew0 p k h2 h3 with ⟨p2, k2, g1, g2, g3⟩ | g
        · exact c0.lo k.b ⟨s, _, p2, k2, hT0, g1, by rw [e0t]; exact g2, g3⟩
        · exact .inl (Nat.le_trans c0.below.size g)
      · rw [← e0n s hs] at h3
        exact c0.lo k.b ⟨s, T, p, k, h1, h2, h3, rfl⟩
    · rcases hm hT' with ⟨rfl, rfl⟩ | ⟨hs, hT'⟩
      · have h3 : q = [] := h3
        subst h3
        rw [ht', htop, ← e0t]
        exact c0.fix i c' (.pt z x0) [] h1 hT0 rfl
      · rw [← e0n i hs]; exact c0.fix i c' T' q h1 hT' h3
  exact cc.put (some D) (fun _ e => by cases e; exact hN) (.stat (top_stat ht1 hnb))

/-- what the call's contract says, of a frame -/
def PvR (P : Program) (t z : Nat) (x0 : AV) (o : Oper) (ev : Operand → AV) (X v : AV) : Prop :=
  ∃ (x : Operand) (args : Array Operand) (ats : Array TypeId) (f : FuncId) (caps rest : List AV), o.op = .call ⟨.value x, args, ats⟩ ∧ ev x = .fn f caps ∧ args.toList.map ev ++ caps = .loc t [] 0 0 :: rest ∧ AV.bearsL rest = false ∧ SpecX P f (.pt z x0 :: rest) [some X] v ∧ v.nodeB = false
theorem pvP_extract {t : Nat} {T0 : AV} {ev : Operand → AV} {o : Oper} {K : AV → AV → Prop} (h : pvP P t T0 ev o.op K .mk) : ∃ z x0 X v, T0 = .pt z x0 ∧ PvR P t z x0 o ev X v ∧ K X v := by
  unfold pvP at h
  split at h
  · rename_i c hc
    obtain ⟨callee, args, ats⟩ := c
    simp only at h
    split at h
    · rename_i x
      unfold pvF at h
      split at h
      · rename_i f caps hx
        unfold pvC at h
        split at h
        · rename_i z x0 t' q i j rest hl
          obtain ⟨⟨rfl, rfl, rfl, rfl, hb⟩, X, r, hs, hnb, hk⟩ := h
          exact ⟨z, x0, X, r, rfl, ⟨x, args, ats, f, caps, rest, hc, hx, hl, hb, hs, hnb⟩, hk⟩
        · exact h.elim
      · exact h.elim
    · exact h.elim
  · exact h.elim

theorem pvR_congr {t z : Nat} {x0 : AV} {ops : List Oper} {o : Oper} {st st' : St} {X v : AV} (he : ∀ u ∈ looks ops o, st.fr u = st'.fr u) (h : PvR P t z x0 o st.ev X v) : PvR P t z x0 o st'.ev X v := by
  obtain ⟨x, args, ats, f, caps, rest, h1, h2, h3, h4⟩ := h
  have hev := ev_congr (ops := ops) (o := o) he
  rw [h1] at hev
  refine ⟨x, args, ats, f, caps, rest, h1, ?_, ?_, h4⟩
  · rw [← hev x (by simp [Op.operands, Call.operands])]; exact h2
  · rw [← h3]
    congr 1
    refine List.map_congr_left fun y hy => (hev y ?_).symm
    simp only [Op.operands, Call.operands]
    simp
    exact .inr (by simpa using hy)

/-- ONE STEP OF THE DRAW: the call -/
theorem pv_step {hd : List Oper} {rs : List Res} {st1 : St} {t z : Nat} {x0 X v : AV} {listed : Array Bool} {a : Act} {w : World} {Q : Exit → Act → World → Prop} {o : Oper} {m : Nat}
    (hnt : ∀ o ∈ hd, makesB o.op = true → o.dst ≠ some t) (hmk : ∀ (j : Nat) (o : Oper) (r : Res), hd[j]? = some o → rs[j]? = some r → r.1 = true → makesB o.op = true) (hdis : DistinctD hd) (hOk : OpOk N E o) (ho : hd[m]? = some o) (hr : rs[m]? = some (false, v))
    (hun : lstd listed m = false) (hsz : m < listed.size) (hcl : Clean t st1) (hcr : CleanR t hd rs) (hpv : PvR P t z x0 o (part hd rs (lstd listed) 0 (st1.setMem t (.pt z x0))).ev X v)
    (inv : InvD N E hd rs (st1.setMem t (.pt z x0)) listed a w) : o.wp P a w (InvD N E hd rs (st1.setMem t X) (listed.setIfInBounds m true)) Q := by
  obtain ⟨I, ρ, H⟩ := inv
  obtain ⟨D, hD⟩ := distinct_some hdis ho
  have hps : ∀ (Y : AV) (L : Nat → Bool), part hd rs L 0 (st1.setMem t Y) = (part hd rs L 0 st1).setMem t Y := fun Y L => part_setMem hd rs L 0 st1 fun j o r h1 h2 h3 => hnt o (List.mem_of_getElem? h1) (hmk j o r h1 h2 h3)
  generalize hS : part hd rs (lstd listed) 0 (st1.setMem t (.pt z x0)) = S at H hpv
  have hST : S.mem t = some (.pt z x0) := by rw [← hS, hps]; exact setMem_self
  have hSX : part hd rs (lstd listed) 0 (st1.setMem t X) = S.setMem t X := by rw [← hS, hps, hps, setMem_setMem]
  have hSc : Clean t S := by
    rw [← hS, hps]
    exact clean_part hd rs _ 0 st1 hcl hcr
  have hi : lstd (listed.setIfInBounds m true) m = true := by simp [lstd, hsz]
  have hne : ∀ j, j ≠ m → lstd (listed.setIfInBounds m true) j = lstd listed j := fun j hj => getD_set_ne false (Ne.symm hj)
  have hset : part hd rs (lstd (listed.setIfInBounds m true)) 0 (st1.setMem t X) = (S.setMem t X).put (some D) v := by
    rw [part_set hd rs 0 _ m o (false, v) hdis ho hr (by simpa using hun) (by simpa using hi) (fun j hj => hne j (by simpa using hj)), hSX]
    unfold app1
    rw [hD]
  have hfr : ∀ s, Fresh hd (listed.setIfInBounds m true) s → Fresh hd listed s := by
    rintro s ⟨j, o', h1, h2, h3, h4⟩
    have hji : j ≠ m := fun e => by subst e; rw [hi] at h3; cases h3
    exact ⟨j, o', h1, h2, by rw [← hne j hji]; exact h3, h4⟩
  have c := H ρ fun s => .inl rfl
  obtain ⟨x, args, ats, f, caps, rest, h1, h2, h3, h4, h5, h6⟩ := hpv
  obtain ⟨dst, op, ty, pos, after, g⟩ := o
  simp only at h1 hD
  subst h1; subst hD
  have hx := c.ev x
  rw [h2] at hx
  obtain ⟨arr, hxe, hcn, hcr'⟩ := rep_fn hx
  have hlen : args.size + caps.length = rest.length + 1 := by
    have := congrArg List.length h3
    simpa using this
  have key := pv_call (P := P) (Fr := Fresh hd listed) (vals := args.map a.eval ++ arr) (fun ⟨j, o', g1, g2, _, g4⟩ => hnt o' (List.mem_of_getElem? g1) g2 g4) H hST hSc (hOk.1 D rfl) h5 h6 h4 (by simp [hcn, hlen]) (fun j hj hk => ?_)
  · obtain ⟨⟨fn, cd, hf1, hb, hname⟩, hcall⟩ := key
    have hrun : (execOp a.eval ⟨some D, .call ⟨.value x, args, ats⟩, ty, pos, after, g⟩).run P w = .ok (.enter f (args.map a.eval ++ arr)) w := by
      have he : execOp a.eval ⟨some D, .call ⟨.value x, args, ats⟩, ty, pos, after, g⟩ = (do let d ← Deferred.ofValue (a.eval x) (args.map a.eval); invoke d.target d.args : Sem Next) := by
        simp [execOp, resolve]
      rw [he, hxe]
      simp [Deferred.ofValue, invoke, callFunc, hf1, hb, hname]
    unfold Oper.wp
    rw [hrun]
    refine hcall.mono ?_
    rintro e w' ⟨y, rfl, I', ρ2, hst⟩
    refine ⟨I', ρ2, fun ρ' hρ' => ?_⟩
    rw [hset]
    exact hst ρ' fun s => (hρ' s).imp id (hfr s)
  · have hj' : j < (args.toList.map S.ev ++ caps).length := by rw [h3]; exact hj
    have e0 : (AV.loc t [] 0 0 :: rest)[j] = (args.toList.map S.ev ++ caps)[j] := by simp only [h3]
    rw [e0]
    by_cases hjl : j < (args.toList.map S.ev).length
    · have hjl' : j < args.size := by simpa using hjl
      have e1 : (args.toList.map S.ev ++ caps)[j] = (args.toList.map S.ev)[j] := List.getElem_append_left hjl
      have e2 : (args.map a.eval ++ arr)[j] = (args.map a.eval)[j]'(by simpa using hjl') := Array.getElem_append_left (by simpa using hjl')
      rw [e1, e2]; simp; exact c.ev _
    · have hsz : (args.toList.map S.ev).length = args.size := by simp
      have hj2 : j - args.size < caps.length := by simp at hj'; omega
      have e1 : (args.toList.map S.ev ++ caps)[j] = caps[j - (args.toList.map S.ev).length]'(by omega) := List.getElem_append_right (by omega)
      have e2 : (args.map a.eval ++ arr)[j] = arr[j - (args.map a.eval).size]'(by simp; omega) := Array.getElem_append_right (by simp; omega)
      rw [e1, e2]
      have e3 : j - (args.map a.eval).size = j - args.size := by simp
      have e4 : j - (args.toList.map S.ev).length = j - args.size := by rw [hsz]
      simp only [e3, e4]
      exact hcr' _ hj2 (by omega)
/-- WHATEVER ORDER IS DRAWN -/
theorem draw_goV {ops HD TL : List Oper} {rs : List Res} {st1 : St} {mem0 : Nat → Option AV} {t z m0 : Nat} {x0 X v : AV} {o0 : Oper} {K : St → Prop} {Q : Exit → Act → World → Prop} (hQ : ∀ a' w', AOut N E K a' w' → Q .normal a' w')
    (hOps : ∀ o ∈ ops, OpOk N E o) (hht : HD ++ TL = ops) (hok : drawOkG ops HD TL = true) (hlen : rs.length = HD.length)
    (hkn : ∀ s, (∀ o ∈ HD, makesB o.op = true → o.dst ≠ some s) ∨ st1.mem s = none) (hnt : ∀ o ∈ HD, makesB o.op = true → o.dst ≠ some t) (hm0 : ∀ s T, mem0 s = some T → s ≠ t ∧ st1.mem s = some T)
    (hmk : ∀ (j : Nat) (o : Oper) (r : Res), HD[j]? = some o → rs[j]? = some r → r.1 = true → makesB o.op = true) (hcl : Clean t st1) (hcr : CleanR t HD rs) (ho0 : HD[m0]? = some o0) (hr0 : rs[m0]? = some (false, v)) (hg0 : o0.guard = none)
    (hflow : ∀ (i : Nat) (o : Oper) (r : Res), i ≠ m0 → HD[i]? = some o → rs[i]? = some r → StepR P ops mem0 o (part HD rs (fun j => decide (j < i)) 0 st1) r)
    (hpv : PvR P t z x0 o0 (part HD rs (fun j => decide (j < m0)) 0 st1).ev X v)
    (hK : seqOps P M ops TL (part HD rs (fun _ => true) 0 (st1.setMem t X)) K) :
    ∀ (m : Nat) (U : List Nat) (listed : Array Bool) (a : Act) (w : World), U.length = m → U.Nodup → (∀ j, j ∈ U ↔ j < HD.length ∧ lstd listed j = false) →
      HeadInv .any ops.toArray HD.length listed → InvD N E HD rs (st1.setMem t (if lstd listed m0 then X else .pt z x0)) listed a w → wpAny P .any ops.toArray Q (m + TL.length) listed a w := by
  unfold drawOkG at hok
  simp only [Bool.and_eq_true] at hok
  obtain ⟨⟨⟨hdis, hdeps⟩, htail⟩, hseq⟩ := hok
  have hdis := distinctB_spec hdis
  have hhd : ∀ {j : Nat} {o : Oper}, HD[j]? = some o → ops[j]? = some o := fun {j o} h => by
    rw [← hht, List.getElem?_append_left (List.getElem?_eq_some_iff.1 h).1]; exact h
  have hdh : ∀ {j : Nat}, j < HD.length → ops[j]? = HD[j]? := fun {j} h => by
    conv => lhs; rw [← hht]
    rw [List.getElem?_append_left h]
  have htl : ∀ j, TL[j]? = ops.toArray[HD.length + j]? := fun j => by
    rw [List.getElem?_toArray]
    have := List.getElem?_append_right (l₁ := HD) (l₂ := TL) (i := HD.length + j) (by omega)
    rw [hht] at this
    rw [this]; congr 1; omega
  have hol : ops.length = HD.length + TL.length := by
    conv => lhs; rw [← hht]
    rw [List.length_append]
  have hfr2 : ∀ (L : Nat → Bool) (Y : AV) u, (part HD rs L 0 st1).fr u = (part HD rs L 0 (st1.setMem t Y)).fr u := fun L Y u => part_fr HD rs 0 _ _ rfl fun _ _ _ _ => rfl
  have hm0lt : m0 < HD.length := (List.getElem?_eq_some_iff.1 ho0).1
  intro m
  induction m with
  | zero =>
    intro U listed a w hU _ hUm inv ⟨I, ρ, H⟩
    have hU0 : U = [] := List.eq_nil_of_length_eq_zero hU
    have hall : ∀ j, j < HD.length → lstd listed j = true := fun j hj => by
      cases h : lstd listed j with
      | true => rfl
      | false => have := (hUm j).2 ⟨hj, h⟩; rw [hU0] at this; cases this
    have hlist : listed = firstN ops.length HD.length := by
      apply Array.ext
      · simp [firstN, inv.size]
      · intro j h1 h2
        have hj : j < ops.length := by simpa [inv.size] using h1
        simp only [firstN, Array.getElem_map, Array.getElem_range]
        by_cases hjn : j < HD.length
        · have := hall j hjn
          simp only [lstd, Array.getD_eq_getD_getElem?, Array.getElem?_eq_getElem h1, Option.getD_some] at this
          rw [this]; simp [hjn]
        · have := inv.tail j (by omega) (by simpa using hj)
          simp only [Array.getD_eq_getD_getElem?, Array.getElem?_eq_getElem h1, Option.getD_some] at this
          rw [this]; simp [hjn]
    have hc := H ρ fun s => .inl rfl
    rw [if_pos (hall m0 hm0lt)] at hc
    rw [part_congr' HD rs (M := fun _ => true) 0 _ fun j _ hj => hall j (by simpa using hj)] at hc
    rw [Nat.zero_add]
    refine wpAny_of_seq TL HD.length listed a w htl (by rw [hlist]; exact hseq) ?_
    exact seqOps_sound hQ ops TL _ a w (fun o ho => hOps o (by rw [← hht]; exact List.mem_append_right _ ho)) hK ⟨I, ρ, hc⟩
  | succ m ih =>
    intro U listed a w hU hnd hUm inv hinv
    rw [show m + 1 + TL.length = (m + TL.length) + 1 by omega]
    have hun : ∃ i0, i0 < HD.length ∧ lstd listed i0 = false := by
      cases U with
      | nil => cases hU
      | cons x _ => exact ⟨x, (hUm x).1 (by simp)⟩
    -- the first that is not listed is ready
    have hmin : ∃ i0, i0 < HD.length ∧ lstd listed i0 = false ∧ ∀ j, j < i0 → lstd listed j = true := by
      obtain ⟨i0, h1, h2⟩ := hun
      induction i0 using Nat.strongRecOn with
      | _ i0 ih0 =>
        by_cases hx : ∃ j, j < i0 ∧ lstd listed j = false
        · obtain ⟨j, hj, hj2⟩ := hx
          exact ih0 j hj (by omega) hj2
        · refine ⟨i0, h1, h2, fun j hj => ?_⟩
          cases h : lstd listed j with
          | true => rfl
          | false => exact absurd ⟨j, hj, h⟩ hx
    have hin : ∀ {j : Nat}, j < HD.length → j < listed.size := fun h => by rw [inv.size]; simp; omega
    refine ⟨fun h0 => ?_, fun i hi => ?_⟩
    · obtain ⟨i0, h1, h2, h3⟩ := hmin
      have ho : HD[i0]? = some (HD[i0]) := List.getElem?_eq_getElem h1
      have : i0 ∈ Region.ready .any ops.toArray listed := by
        rw [mem_ready]
        refine ⟨getD_in (hin h1) h2, HD[i0], by rw [List.getElem?_toArray]; exact hhd ho, fun e he hb => ?_⟩
        exact h3 _ ((depsB_spec hdeps ho).1 e.on (mem_bindOn.2 ⟨e, he, hb, rfl⟩))
      rw [h0] at this; cases this
    · have hin' : i < HD.length := by
        rcases Nat.lt_or_ge i HD.length with h | h
        · exact h
        · obtain ⟨_, oi, hoi, _⟩ := mem_ready.1 hi
          have hlt := (Array.getElem?_eq_some_iff.1 hoi).1
          simp only [List.size_toArray] at hlt
          cases htl' : TL with
          | nil => rw [htl'] at hol; simp at hol; omega
          | cons o r =>
            rw [htl'] at htail hol
            simp only [Bool.and_eq_true] at htail
            obtain ⟨i0, h1, h2⟩ := hun
            exact absurd hi (tail_waits htail.1 htail.2 (by simp; simp at hol; omega) inv _ i0 rfl h1 (getD_in (hin h1) h2) i h)
      obtain ⟨hiun, oi, hoi, hall⟩ := mem_ready.1 hi
      have ho : HD[i]? = some oi := by rw [← hdh hin', ← List.getElem?_toArray]; exact hoi
      have hun' : lstd listed i = false := getD_both hiun
      obtain ⟨hb, hl⟩ := depsB_spec hdeps ho
      have hclosed : ∀ j o, HD[j]? = some o → lstd listed j = true → ∀ q ∈ bindOn o, lstd listed q = true := fun j o h1 h2 q hq => by
        obtain ⟨e, he, hbd, rfl⟩ := mem_bindOn.1 hq
        exact inv.closed j o (by rw [List.getElem?_toArray]; exact hhd h1) h2 e he hbd
      have hlook : ∀ (Y : AV), ∀ u ∈ looks ops oi, (part HD rs (fun j => decide (j < i)) 0 st1).fr u = (part HD rs (lstd listed) 0 (st1.setMem t Y)).fr u := fun Y u hu => by
        rw [hfr2 _ Y u]
        refine part_fr HD rs 0 _ _ rfl fun j oj h1 h2 => ?_
        obtain ⟨h3, h4⟩ := hl u hu j oj h1 h2
        have := ancT_spec (lstd listed) HD hclosed HD [] 0 rfl (fun j => by simp) (fun i o hi => by omega) i oi (by simpa using hin') ho (fun q hq => by
          obtain ⟨e, he, hbd, rfl⟩ := mem_bindOn.1 hq
          exact hall e he hbd) j h4
        rw [Nat.zero_add, this]; simp [h3]
      have next : ∀ a' w', InvD N E HD rs (st1.setMem t (if lstd (listed.setIfInBounds i true) m0 then X else .pt z x0)) (listed.setIfInBounds i true) a' w' → wpAny P .any ops.toArray Q (m + TL.length) (listed.setIfInBounds i true) a' w' := fun a' w' h => by
        refine ih (U.erase i) _ a' w' (by rw [List.length_erase_of_mem ((hUm i).2 ⟨hin', hun'⟩), hU]; rfl) (hnd.erase i) (fun j => ?_) (inv.set hi hin') h
        rw [hnd.mem_erase_iff, hUm]
        by_cases hj : j = i
        · subst hj
          simp [lstd, hin hin']
        · have : lstd (listed.setIfInBounds i true) j = lstd listed j := getD_set_ne false (Ne.symm hj)
          rw [this]; simp [hj]
      unfold wpOp
      simp only [hoi]
      have hlen' : listed.size = ops.toArray.size := inv.size
      by_cases him : i = m0
      · subst him
        rw [ho0] at ho; cases ho
        have hw : Region.wanted o0 (yielded ops.toArray a.tmps) = true := by unfold Region.wanted; rw [hg0]
        rw [if_pos hw]
        rw [hun'] at hinv
        have step := pv_step (P := P) (Q := Q) hnt hmk hdis (hOps o0 (by rw [← hht]; exact List.mem_append_left _ (List.mem_of_getElem? ho0))) ho0 hr0 hun' (hin hin') hcl hcr (pvR_congr (hlook (.pt z x0)) hpv) hinv
        have e1 : lstd (listed.setIfInBounds i true) i = true := by simp [lstd, hin hin']
        rw [e1, if_pos rfl] at next
        exact .inl (Oper.wp_mono next step)
      · have hr : rs[i]? = some (rs[i]'(by omega)) := List.getElem?_eq_getElem _
        generalize rs[i]'(by omega) = r at hr
        have hst := hflow i oi r him ho hr
        have e1 : lstd (listed.setIfInBounds i true) m0 = lstd listed m0 := getD_set_ne false him
        rw [e1] at next
        generalize (if lstd listed m0 then X else .pt z x0) = Y at hinv next
        have hst' : StepR P ops mem0 oi (part HD rs (lstd listed) 0 (st1.setMem t Y)) r := by
          unfold StepR at hst ⊢
          rw [← gsel_congr (hlook Y)]
          rcases hst with ⟨h1, h2, h3⟩ | h
          · exact .inl ⟨h1, fop_congr (ev_congr (hlook Y)) h2, h3⟩
          · exact .inr h
        have hkn2 : ∀ s, (∀ o ∈ HD, makesB o.op = true → o.dst ≠ some s) ∨ (st1.setMem t Y).mem s = none := fun s => by
          by_cases hs : s = t
          · subst hs; exact .inl hnt
          · exact (hkn s).imp id fun h => (setMem_ne hs).trans h
        have step := draw_step (Q := Q) (st1 := st1.setMem t Y) (mem0 := mem0) hkn2 (mem_keeps hkn2 (fun s T h => (setMem_ne (hm0 s T h).1).trans (hm0 s T h).2) hmk _) hdis (hOps oi (by rw [← hht]; exact List.mem_append_left _ (List.mem_of_getElem? ho))) ho hr hun' hlen hmk hst' (hin hin') hinv
        split
        · rename_i hw
          rw [if_pos hw] at step
          exact .inl (Oper.wp_mono next step)
        · rename_i hw
          rw [if_neg hw] at step
          exact next _ _ step


theorem flowR_makes {ops : List Oper} {mem0 : Nat → Option AV} {hd : List Oper} {rs : List Res} {st : St} (h : FlowR P ops mem0 hd rs st) (j : Nat) (o : Oper) (r : Res) (h1 : hd[j]? = some o) (h2 : rs[j]? = some r) (h3 : r.1 = true) : makesB o.op = true := by
  rcases flow_step 0 h j o r h1 h2 with ⟨_, _, hm⟩ | ⟨_, hr⟩
  · exact hm h3
  · rw [hr] at h3; cases h3

theorem piv_sound {id : Nat} {ops : List Oper} {n m t : Nat} {st : St} {a : Act} {w : World} {K : St → Prop} {Q : Exit → Act → World → Prop} (hQ : ∀ a' w', AOut N E K a' w' → Q .normal a' w') (hm : P.follows .mixedOrders = true)
    (hOps : ∀ o ∈ ops, OpOk N E o) (hok : pivOk ops n m = true) (h : pivP P M ops (ops.take n) (ops.drop n) m t st K .mk .mk) (hc : CC N E st a w) : (Code.region id ops.toArray true).wp P Q a w := by
  refine wp_region_any hm ?_
  unfold pivOk at hok
  simp only [Bool.and_eq_true] at hok
  obtain ⟨hok, hgd⟩ := hok
  have hht : ops.take n ++ ops.drop n = ops := List.take_append_drop n ops
  generalize ops.take n = HD at *
  generalize ops.drop n = TL at *
  unfold pivP at h
  cases hp : HD[m]? with
  | none => rw [hp] at h; exact h.elim
  | some p =>
  rw [hp] at h hgd
  have hg0 : p.guard = none := by
    simp only at hgd
    cases hg : p.guard with
    | none => rfl
    | some x => rw [hg] at hgd; cases hgd
  have h : optP (((killNew HD st).mapF (belowF t [])).mem t) (fun T0 => pivQ P M ops (HD.take m) p (HD.drop (m + 1)) TL t (hide1 t ((killNew HD st).mapF (belowF t [])).mem) T0 ((killNew HD st).mapF (belowF t [])) K .mk .mk) .mk := h
  cases hT : ((killNew HD st).mapF (belowF t [])).mem t with
  | none => rw [hT] at h; exact h.elim
  | some T0 =>
  rw [hT] at h
  have hkm : (killNew HD st).mem t = some T0 := hT
  have hbase := clean_base t (killNew HD st)
  generalize hst1 : (killNew HD st).mapF (belowF t []) = st1 at h hT hbase
  have hmem1 : st1.mem = (killNew HD st).mem := by rw [← hst1]; rfl
  have h : flowC P ops t (hide1 t st1.mem) (HD.take m) st1 fun s1 => pvP P t T0 s1.ev p.op (fun X v => valP v (fun v => vc (v.mapH (belowF t []) = v) (flowC P ops t (hide1 t st1.mem) (HD.drop (m + 1)) ((s1.setMem t X).put p.dst v) fun s2 => seqOps P M ops TL s2 K) .mk) .mk) .mk := h
  obtain ⟨r1, hf1, hc1, h⟩ := flowC_extract (HD.take m) 0 st1 h
  obtain ⟨z, x0, X, v, rfl, hpv, hcv, h⟩ := pvP_extract h
  obtain ⟨r2, hf2, hc2, hK⟩ := flowC_extract (HD.drop (m + 1)) (m + 1) _ h
  have hl1 := flow_len hf1
  have hl2 := flow_len hf2
  obtain ⟨hmlt, hpe⟩ := List.getElem?_eq_some_iff.1 hp
  have hHD : HD = HD.take m ++ p :: HD.drop (m + 1) := by
    rw [← hpe, ← List.drop_eq_getElem_cons hmlt, List.take_append_drop]
  have hlm : (HD.take m).length = m := by rw [List.length_take]; omega
  -- all the results
  have hcr : CleanR t HD (r1 ++ (false, v) :: r2) := by
    rw [hHD]; exact cleanR_append hl1 hc1 ⟨hcv, hc2⟩
  have hlen : (r1 ++ (false, v) :: r2).length = HD.length := by
    rw [List.length_append, List.length_cons, hl1, hl2, hlm, List.length_drop]; omega
  have hr0 : (r1 ++ (false, v) :: r2)[m]? = some (false, v) := by
    rw [List.getElem?_append_right (by omega)]; simp [hl1, hlm]
  have hpart : ∀ (L : Nat → Bool) (s : St), part HD (r1 ++ (false, v) :: r2) L 0 s = part (HD.drop (m + 1)) r2 L (m + 1) (if L m then app1 p (false, v) (part (HD.take m) r1 L 0 s) else part (HD.take m) r1 L 0 s) := fun L s => by
    conv => lhs; rw [hHD]
    rw [part_append _ _ _ _ _ _ _ hl1, hlm]
    simp only [part, Nat.zero_add]
  have hnt : ∀ o ∈ HD, makesB o.op = true → o.dst ≠ some t := by
    rcases killNew_mem (s := t) HD st with hk | hk
    · exact hk
    · rw [hkm] at hk; cases hk
  have hget1 : ∀ i, i < m → HD[i]? = (HD.take m)[i]? ∧ (r1 ++ (false, v) :: r2)[i]? = r1[i]? := fun i hi => by
    exact ⟨by rw [List.getElem?_take, if_pos hi], List.getElem?_append_left (by omega)⟩
  have hget2 : ∀ i, HD[m + 1 + i]? = (HD.drop (m + 1))[i]? ∧ (r1 ++ (false, v) :: r2)[m + 1 + i]? = r2[i]? := fun i => by
    refine ⟨by rw [List.getElem?_drop], ?_⟩
    rw [List.getElem?_append_right (by omega), hl1, hlm, show m + 1 + i - m = i + 1 by omega, List.getElem?_cons_succ]
  have hmk : ∀ (j : Nat) (o : Oper) (r : Res), HD[j]? = some o → (r1 ++ (false, v) :: r2)[j]? = some r → r.1 = true → makesB o.op = true := by
    intro j o r h1 h2 h3
    rcases Nat.lt_trichotomy j m with hj | hj | hj
    · obtain ⟨g1, g2⟩ := hget1 j hj
      rw [g1] at h1; rw [g2] at h2
      exact flowR_makes hf1 j o r h1 h2 h3
    · subst hj; rw [hr0] at h2; cases h2; cases h3
    · obtain ⟨g1, g2⟩ := hget2 (j - (m + 1))
      rw [show m + 1 + (j - (m + 1)) = j by omega] at g1 g2
      rw [g1] at h1; rw [g2] at h2
      exact flowR_makes hf2 _ o r h1 h2 h3
  have hflow : ∀ (i : Nat) (o : Oper) (r : Res), i ≠ m → HD[i]? = some o → (r1 ++ (false, v) :: r2)[i]? = some r → StepR P ops (hide1 t st1.mem) o (part HD (r1 ++ (false, v) :: r2) (fun j => decide (j < i)) 0 st1) r := by
    intro i o r hi h1 h2
    rcases Nat.lt_or_gt_of_ne hi with hj | hj
    · obtain ⟨g1, g2⟩ := hget1 i hj
      rw [g1] at h1; rw [g2] at h2
      have := flow_step 0 hf1 i o r h1 h2
      rw [hpart]
      simp only [Nat.zero_add] at this
      rw [part_none _ _ _ _ fun j hj => by simp; omega, if_neg (by simp; omega)]
      exact this
    · obtain ⟨g1, g2⟩ := hget2 (i - (m + 1))
      rw [show m + 1 + (i - (m + 1)) = i by omega] at g1 g2
      rw [g1] at h1; rw [g2] at h2
      have := flow_step (m + 1) hf2 _ o r h1 h2
      rw [show m + 1 + (i - (m + 1)) = i by omega] at this
      refine stepR_congr (fun u => ?_) this
      rw [hpart, if_pos (by simp; omega)]
      refine part_fr _ _ _ _ _ ?_ fun _ _ _ _ => rfl
      have e : part (HD.take m) r1 (fun j => decide (j < i)) 0 st1 = part (HD.take m) r1 (fun _ => true) 0 st1 := part_congr' _ _ 0 _ fun j _ hj2 => by rw [hlm] at hj2; simp; omega
      rw [e]
      show _ = ((part (HD.take m) r1 (fun _ => true) 0 st1).put p.dst v).fr u
      cases p.dst <;> rfl
  have hpv' : PvR P t z x0 p (part HD (r1 ++ (false, v) :: r2) (fun j => decide (j < m)) 0 st1).ev X v := by
    rw [hpart, part_none _ _ _ _ fun j hj => by simp; omega, if_neg (by simp), part_congr' _ _ 0 _ (M := fun _ => true) fun j _ hj2 => by rw [hlm] at hj2; simp; omega]
    exact hpv
  have hKK : seqOps P M ops TL (part HD (r1 ++ (false, v) :: r2) (fun _ => true) 0 (st1.setMem t X)) K := by
    rw [hpart, if_pos rfl]
    have e : app1 p (false, v) (part (HD.take m) r1 (fun _ => true) 0 (st1.setMem t X)) = ((part (HD.take m) r1 (fun _ => true) 0 st1).setMem t X).put p.dst v := by
      rw [part_setMem _ _ _ _ _ fun j o r h1 h2 h3 => ?_]
      · rfl
      · exact hnt o (by rw [hHD]; exact List.mem_append_left _ (List.mem_of_getElem? h1)) (flowR_makes hf1 j o r h1 h2 h3)
    rw [e]
    exact hK
  obtain ⟨I, ρ, c⟩ := hc
  have c' : Conc N E st a { w with drawn := w.drawn + 1 } I ρ := c.grow ⟨⟨fun b o x h => c.held.cell b o x h, c.held.base⟩, ⟨rfl, rfl, rfl, Nat.le_refl _, fun _ _ _ => rfl⟩, fun _ _ _ => rfl⟩
  have hol : ops.length = HD.length + TL.length := by
    conv => lhs; rw [← hht]
    rw [List.length_append]
  have hz : ∀ j, lstd (Array.replicate ops.toArray.size false) j = false := fun j => getD_replicate_false _ _
  have := draw_goV (P := P) (M := M) (N := N) (E := E) (rs := r1 ++ (false, v) :: r2) (st1 := st1) (mem0 := hide1 t st1.mem) (m0 := m) hQ hOps hht hok hlen
    (fun s => by rw [hmem1]; exact killNew_mem HD st) hnt (fun s T h => by
      unfold hide1 at h
      split at h
      · cases h
      · rename_i e; exact ⟨e, h⟩) hmk hbase hcr hp hr0 hg0 hflow hpv' hKK HD.length (List.range HD.length) (Array.replicate ops.toArray.size false) a { w with drawn := w.drawn + 1 }
    List.length_range List.nodup_range (fun j => by rw [hz]; simp) ⟨by simp, fun j oj _ h => Bool.noConfusion ((hz j).symm.trans h), fun t _ ht => getD_in (by simpa using ht) (hz t)⟩
    ⟨I, ρ, fun ρ' hρ => by
      rw [part_none _ _ _ _ fun j _ => hz j, hz, if_neg (by simp)]
      have e : st1.setMem t (.pt z x0) = st1 := by
        cases hh : st1 with
        | mk fr mem =>
        rw [hh] at hT
        simp only [St.setMem]
        congr 1
        funext i
        split
        · rename_i e; subst e; exact hT.symm
        · rfl
      rw [e, ← hst1]
      have ck := conc_killNew HD st ρ c' ρ' fun s => (hρ s).imp (fun h => h) fun ⟨j, o, h1, h2, _, h4⟩ => ⟨o, List.mem_of_getElem? h1, h2, h4⟩
      exact ck.remap (mem' := (killNew HD st).mem) (belowF t []) (fun s p s' p' hf => by obtain ⟨rfl, rfl, _⟩ := belowF_some hf; rfl) ck.held (fun _ _ _ h => h) ck.below ck.keeps ck.mem ck.lo ck.fix⟩
  have e : ops.toArray.size = HD.length + TL.length := by simpa using hol
  rw [← e] at this
  exact this
end
end Go.AM
namespace Go.AM
open Go.RowKit (Below)

theorem part_memc {u : Nat} : ∀ (hd : List Oper) (rs : List Res) {L M : Nat → Bool} (k : Nat) (st st' : St), st.mem u = st'.mem u → (∀ j o, hd[j]? = some o → o.dst = some u → L (k + j) = M (k + j)) → (part hd rs L k st).mem u = (part hd rs M k st').mem u
  | [], _, _, _, _, _, _, h, _ => h
  | _ :: _, [], _, _, _, _, _, h, _ => h
  | o :: os, r :: rs, L, M, k, st, st', h, hL => by
    simp only [part]
    refine part_memc os rs (k + 1) _ _ ?_ fun j o' h1 h2 => by have := hL (j + 1) o' (by simpa using h1) h2; simpa [Nat.add_assoc, Nat.add_comm 1 j] using this
    have key : ∀ s : St, (app1 o r s).mem u = if r.1 = true ∧ o.dst = some u then some r.2 else s.mem u := by
      intro s
      unfold app1
      obtain ⟨b, v⟩ := r
      cases b <;> cases hd : o.dst <;> simp [St.put, St.addN, St.setMem]
      all_goals (split <;> split <;> first | rfl | (rename_i a b; exact absurd a.symm b) | (rename_i a b; exact absurd b.symm a) | (rename_i a b; subst a; rfl))
    by_cases hdst : o.dst = some u
    · have := hL 0 o (by simp) hdst
      simp only [Nat.add_zero] at this
      rw [this]
      cases M k <;> simp [key, hdst, h]
    · cases L k <;> cases M k <;> simp [key, hdst, h]

def FlowM (P : Program) (ops : List Oper) (mem0 : Nat → Option AV) : List Oper → List (List Nat) → List Res → St → Prop
  | [], _, [], _ => True
  | o :: os, ls, r :: rs, st => StepR P ops (memA (ls.headD []) st.mem mem0) o st r ∧ FlowM P ops mem0 os ls.tail rs (app1 o r st)
  | _, _, _, _ => False
theorem flowM_extract {P : Program} {ops : List Oper} {mem0 : Nat → Option AV} {K : St → Prop} : ∀ (hd : List Oper) (ls : List (List Nat)) (k : Nat) (st : St), flowM P ops mem0 hd ls st K → ∃ rs, FlowM P ops mem0 hd ls rs st ∧ K (part hd rs (fun _ => true) k st)
  | [], _, _, st, h => ⟨[], trivial, h⟩
  | o :: os, ls, k, st, h => by
    rcases guardP_sel h with ⟨hg, h1⟩ | ⟨hg, h1⟩
    · obtain ⟨⟨b, v⟩, h2, h3, h4⟩ := fop_pick h1
      cases b with
      | false =>
        obtain ⟨rs, h5, h6⟩ := flowM_extract os _ (k + 1) _ h3
        exact ⟨(false, v) :: rs, ⟨.inl ⟨hg, h2, h4⟩, h5⟩, h6⟩
      | true =>
        obtain ⟨rs, h5, h6⟩ := flowM_extract os _ (k + 1) _ h3
        exact ⟨(true, v) :: rs, ⟨.inl ⟨hg, h2, h4⟩, h5⟩, h6⟩
    · obtain ⟨rs, h5, h6⟩ := flowM_extract os _ (k + 1) _ h1
      exact ⟨(false, .un) :: rs, ⟨.inr ⟨hg, rfl⟩, h5⟩, h6⟩
theorem flowM_len {P : Program} {ops : List Oper} {mem0 : Nat → Option AV} : ∀ {hd : List Oper} {ls : List (List Nat)} {rs : List Res} {st : St}, FlowM P ops mem0 hd ls rs st → rs.length = hd.length
  | [], _, [], _, _ => rfl
  | _ :: _, _, _ :: _, _, h => by simp [flowM_len h.2]
  | [], _, _ :: _, _, h => h.elim
  | _ :: _, _, [], _, h => h.elim
theorem flowM_step {P : Program} {ops : List Oper} {mem0 : Nat → Option AV} : ∀ {hd : List Oper} {ls : List (List Nat)} {rs : List Res} {st : St} (k : Nat), FlowM P ops mem0 hd ls rs st → ∀ i o r, hd[i]? = some o → rs[i]? = some r →
    StepR P ops (memA (ls.getD i []) (part hd rs (fun j => decide (j < k + i)) k st).mem mem0) o (part hd rs (fun j => decide (j < k + i)) k st) r
  | [], _, _, _, _, _, i, _, _, h, _ => by simp at h
  | _ :: _, _, [], _, _, h, _, _, _, _, _ => h.elim
  | o :: os, ls, r :: rs, st, k, h, 0, o', r', h1, h2 => by
    simp at h1 h2
    subst h1; subst h2
    rw [part_none _ _ _ _ (fun j hj => by simp; omega)]
    have e : ls.getD 0 [] = ls.headD [] := by cases ls <;> rfl
    rw [e]
    exact h.1
  | o :: os, ls, r :: rs, st, k, h, i + 1, o', r', h1, h2 => by
    have := flowM_step (k + 1) h.2 i o' r' (by simpa using h1) (by simpa using h2)
    simp only [part]
    have e2 : (fun j => decide (j < k + 1 + i)) = fun j => decide (j < k + (i + 1)) := by funext j; congr 1; rw [Nat.add_assoc, Nat.add_comm 1 i]
    rw [e2] at this
    rw [if_pos (by simp)]
    have e : ls.tail.getD i [] = ls.getD (i + 1) [] := by cases ls <;> rfl
    rw [e] at this
    exact this
theorem flowM_makes {P : Program} {ops : List Oper} {mem0 : Nat → Option AV} {hd : List Oper} {ls : List (List Nat)} {rs : List Res} {st : St} (h : FlowM P ops mem0 hd ls rs st) (j : Nat) (o : Oper) (r : Res) (h1 : hd[j]? = some o) (h2 : rs[j]? = some r) (h3 : r.1 = true) : makesB o.op = true := by
  rcases flowM_step 0 h j o r h1 h2 with ⟨_, _, hm⟩ | ⟨_, hr⟩
  · exact hm h3
  · rw [hr] at h3; cases h3

section
variable {P : Program} {M : FuncId → List Bool} {N : Nat} {E : Entry}
/-- WHATEVER ORDER IS DRAWN -/
theorem draw_goM {ops HD TL : List Oper} {rs : List Res} {ls : List (List Nat)} {st0 : St} {K : St → Prop} {Q : Exit → Act → World → Prop} (hQ : ∀ a' w', AOut N E K a' w' → Q .normal a' w')
    (hOps : ∀ o ∈ ops, OpOk N E o) (hht : HD ++ TL = ops) (hok : drawOkG ops HD TL = true) (hlen : rs.length = HD.length)
    (hmade : madeOk HD ls = true) (hmk : ∀ (j : Nat) (o : Oper) (r : Res), HD[j]? = some o → rs[j]? = some r → r.1 = true → makesB o.op = true)
    (hflow : ∀ (i : Nat) (o : Oper) (r : Res), HD[i]? = some o → rs[i]? = some r → StepR P ops (memA (ls.getD i []) (part HD rs (fun j => decide (j < i)) 0 (killNew HD st0)).mem (killNew HD st0).mem) o (part HD rs (fun j => decide (j < i)) 0 (killNew HD st0)) r)
    (hK : seqOps P M ops TL (part HD rs (fun _ => true) 0 (killNew HD st0)) K) :
    ∀ (m : Nat) (U : List Nat) (listed : Array Bool) (a : Act) (w : World), U.length = m → U.Nodup → (∀ j, j ∈ U ↔ j < HD.length ∧ lstd listed j = false) →
      HeadInv .any ops.toArray HD.length listed → InvD N E HD rs (killNew HD st0) listed a w → wpAny P .any ops.toArray Q (m + TL.length) listed a w := by
  unfold drawOkG at hok
  simp only [Bool.and_eq_true] at hok
  obtain ⟨⟨⟨hdis, hdeps⟩, htail⟩, hseq⟩ := hok
  have hdis := distinctB_spec hdis
  have hhd : ∀ {j : Nat} {o : Oper}, HD[j]? = some o → ops[j]? = some o := fun {j o} h => by
    rw [← hht, List.getElem?_append_left (List.getElem?_eq_some_iff.1 h).1]; exact h
  have hdh : ∀ {j : Nat}, j < HD.length → ops[j]? = HD[j]? := fun {j} h => by
    conv => lhs; rw [← hht]
    rw [List.getElem?_append_left h]
  have htl : ∀ j, TL[j]? = ops.toArray[HD.length + j]? := fun j => by
    rw [List.getElem?_toArray]
    have := List.getElem?_append_right (l₁ := HD) (l₂ := TL) (i := HD.length + j) (by omega)
    rw [hht] at this
    rw [this]; congr 1; omega
  have hol : ops.length = HD.length + TL.length := by
    conv => lhs; rw [← hht]
    rw [List.length_append]
  intro m
  induction m with
  | zero =>
    intro U listed a w hU _ hUm inv ⟨I, ρ, H⟩
    have hU0 : U = [] := List.eq_nil_of_length_eq_zero hU
    have hall : ∀ j, j < HD.length → lstd listed j = true := fun j hj => by
      cases h : lstd listed j with
      | true => rfl
      | false => have := (hUm j).2 ⟨hj, h⟩; rw [hU0] at this; cases this
    have hlist : listed = firstN ops.length HD.length := by
      apply Array.ext
      · simp [firstN, inv.size]
      · intro j h1 h2
        have hj : j < ops.length := by simpa [inv.size] using h1
        simp only [firstN, Array.getElem_map, Array.getElem_range]
        by_cases hjn : j < HD.length
        · have := hall j hjn
          simp only [lstd, Array.getD_eq_getD_getElem?, Array.getElem?_eq_getElem h1, Option.getD_some] at this
          rw [this]; simp [hjn]
        · have := inv.tail j (by omega) (by simpa using hj)
          simp only [Array.getD_eq_getD_getElem?, Array.getElem?_eq_getElem h1, Option.getD_some] at this
          rw [this]; simp [hjn]
    have hc := H ρ fun s => .inl rfl
    rw [part_congr' HD rs (M := fun _ => true) 0 _ fun j _ hj => hall j (by simpa using hj)] at hc
    rw [Nat.zero_add]
    refine wpAny_of_seq TL HD.length listed a w htl (by rw [hlist]; exact hseq) ?_
    exact seqOps_sound hQ ops TL _ a w (fun o ho => hOps o (by rw [← hht]; exact List.mem_append_right _ ho)) hK ⟨I, ρ, hc⟩
  | succ m ih =>
    intro U listed a w hU hnd hUm inv hinv
    rw [show m + 1 + TL.length = (m + TL.length) + 1 by omega]
    have hun : ∃ i0, i0 < HD.length ∧ lstd listed i0 = false := by
      cases U with
      | nil => cases hU
      | cons x _ => exact ⟨x, (hUm x).1 (by simp)⟩
    -- the first that is not listed is ready
    have hmin : ∃ i0, i0 < HD.length ∧ lstd listed i0 = false ∧ ∀ j, j < i0 → lstd listed j = true := by
      obtain ⟨i0, h1, h2⟩ := hun
      induction i0 using Nat.strongRecOn with
      | _ i0 ih0 =>
        by_cases hx : ∃ j, j < i0 ∧ lstd listed j = false
        · obtain ⟨j, hj, hj2⟩ := hx
          exact ih0 j hj (by omega) hj2
        · refine ⟨i0, h1, h2, fun j hj => ?_⟩
          cases h : lstd listed j with
          | true => rfl
          | false => exact absurd ⟨j, hj, h⟩ hx
    have hin : ∀ {j : Nat}, j < HD.length → j < listed.size := fun h => by rw [inv.size]; simp; omega
    refine ⟨fun h0 => ?_, fun i hi => ?_⟩
    · obtain ⟨i0, h1, h2, h3⟩ := hmin
      have ho : HD[i0]? = some (HD[i0]) := List.getElem?_eq_getElem h1
      have : i0 ∈ Region.ready .any ops.toArray listed := by
        rw [mem_ready]
        refine ⟨getD_in (hin h1) h2, HD[i0], by rw [List.getElem?_toArray]; exact hhd ho, fun e he hb => ?_⟩
        exact h3 _ ((depsB_spec hdeps ho).1 e.on (mem_bindOn.2 ⟨e, he, hb, rfl⟩))
      rw [h0] at this; cases this
    · have hin' : i < HD.length := by
        rcases Nat.lt_or_ge i HD.length with h | h
        · exact h
        · obtain ⟨_, oi, hoi, _⟩ := mem_ready.1 hi
          have hlt := (Array.getElem?_eq_some_iff.1 hoi).1
          simp only [List.size_toArray] at hlt
          cases htl' : TL with
          | nil => rw [htl'] at hol; simp at hol; omega
          | cons o r =>
            rw [htl'] at htail hol
            simp only [Bool.and_eq_true] at htail
            obtain ⟨i0, h1, h2⟩ := hun
            exact absurd hi (tail_waits htail.1 htail.2 (by simp; simp at hol; omega) inv _ i0 rfl h1 (getD_in (hin h1) h2) i h)
      obtain ⟨hiun, oi, hoi, hall⟩ := mem_ready.1 hi
      have ho : HD[i]? = some oi := by rw [← hdh hin', ← List.getElem?_toArray]; exact hoi
      have hr : rs[i]? = some (rs[i]'(by omega)) := List.getElem?_eq_getElem _
      generalize rs[i]'(by omega) = r at hr
      have hst := hflow i oi r ho hr
      have hun' : lstd listed i = false := getD_both hiun
      obtain ⟨hb, hl⟩ := depsB_spec hdeps ho
      have hclosed : ∀ j o, HD[j]? = some o → lstd listed j = true → ∀ q ∈ bindOn o, lstd listed q = true := fun j o h1 h2 q hq => by
        obtain ⟨e, he, hbd, rfl⟩ := mem_bindOn.1 hq
        exact inv.closed j o (by rw [List.getElem?_toArray]; exact hhd h1) h2 e he hbd
      have hanc : ∀ x ∈ (ancT HD []).getD i [], lstd listed x = true := ancT_spec (lstd listed) HD hclosed HD [] 0 rfl (fun j => by simp) (fun i o hi => by omega) i oi (by simpa using hin') ho (fun q hq => by
          obtain ⟨e, he, hbd, rfl⟩ := mem_bindOn.1 hq
          exact hall e he hbd)
      have hlook : ∀ u ∈ looks ops oi, (part HD rs (fun j => decide (j < i)) 0 (killNew HD st0)).fr u = (part HD rs (lstd listed) 0 (killNew HD st0)).fr u := fun u hu => by
        refine part_fr HD rs 0 _ _ rfl fun j oj h1 h2 => ?_
        obtain ⟨h3, h4⟩ := hl u hu j oj h1 h2
        rw [Nat.zero_add, hanc j h4]; simp [h3]
      have hmem : ∀ s T, memA (ls.getD i []) (part HD rs (fun j => decide (j < i)) 0 (killNew HD st0)).mem (killNew HD st0).mem s = some T → (part HD rs (lstd listed) 0 (killNew HD st0)).mem s = some T := fun s T h => by
        unfold memA at h
        split at h
        · rename_i hc
          have h1 := List.all_eq_true.1 (List.all_eq_true.1 hmade i (List.mem_range.2 hin')) s (List.contains_iff_mem.1 hc)
          obtain ⟨⟨oj, j⟩, hj, h2⟩ := List.any_eq_true.1 h1
          simp only [Bool.and_eq_true, beq_iff_eq, decide_eq_true_eq, List.contains_iff_mem] at h2
          have hoj := List.mem_zipIdx_iff_getElem?.1 hj
          rw [← h]
          refine part_memc HD rs 0 _ _ rfl fun j' o' g1 g2 => ?_
          have hjj : j' = j := by
            by_cases e : j' = j
            · exact e
            · obtain ⟨d, d', q1, q2, q3⟩ := distinct_ne hdis g1 hoj e
              rw [g2] at q1; rw [h2.1.1] at q2
              cases q1; cases q2; exact (q3 rfl).elim
          subst hjj
          rw [Nat.zero_add, hanc j' h2.2]; simp [h2.1.2]
        · exact mem_keeps (fun s => killNew_mem HD st0) (fun _ _ h => h) hmk _ s T h
      have hst' : StepR P ops (memA (ls.getD i []) (part HD rs (fun j => decide (j < i)) 0 (killNew HD st0)).mem (killNew HD st0).mem) oi (part HD rs (lstd listed) 0 (killNew HD st0)) r := by
        unfold StepR at hst ⊢
        rw [← gsel_congr hlook]
        rcases hst with ⟨h1, h2, h3⟩ | h
        · exact .inl ⟨h1, fop_congr (ev_congr hlook) h2, h3⟩
        · exact .inr h
      have step := draw_step (Q := Q) (fun s => killNew_mem HD st0) hmem hdis (hOps oi (by rw [← hht]; exact List.mem_append_left _ (List.mem_of_getElem? ho))) ho hr hun' hlen hmk hst' (hin hin') hinv
      have next : ∀ a' w', InvD N E HD rs (killNew HD st0) (listed.setIfInBounds i true) a' w' → wpAny P .any ops.toArray Q (m + TL.length) (listed.setIfInBounds i true) a' w' := fun a' w' h => by
        refine ih (U.erase i) _ a' w' (by rw [List.length_erase_of_mem ((hUm i).2 ⟨hin', hun'⟩), hU]; rfl) (hnd.erase i) (fun j => ?_) (inv.set hi hin') h
        rw [hnd.mem_erase_iff, hUm]
        by_cases hj : j = i
        · subst hj
          simp [lstd, hin hin']
        · have : lstd (listed.setIfInBounds i true) j = lstd listed j := getD_set_ne false (Ne.symm hj)
          rw [this]; simp [hj]
      unfold wpOp
      simp only [hoi]
      split
      · rename_i hw
        rw [if_pos hw] at step
        exact .inl (Oper.wp_mono next step)
      · rename_i hw
        rw [if_neg hw] at step
        exact next _ _ step


theorem made_sound {id : Nat} {ops : List Oper} {n : Nat} {ls : List (List Nat)} {st : St} {a : Act} {w : World} {K : St → Prop} {Q : Exit → Act → World → Prop} (hQ : ∀ a' w', AOut N E K a' w' → Q .normal a' w') (hm : P.follows .mixedOrders = true)
    (hOps : ∀ o ∈ ops, OpOk N E o) (hok : (drawOkG ops (ops.take n) (ops.drop n) && madeOk (ops.take n) ls) = true) (h : madeP P M ops (ops.take n) (ops.drop n) ls st K .mk .mk) (hc : CC N E st a w) : (Code.region id ops.toArray true).wp P Q a w := by
  refine wp_region_any hm ?_
  rw [Bool.and_eq_true] at hok
  obtain ⟨hok, hmade⟩ := hok
  have hht : ops.take n ++ ops.drop n = ops := List.take_append_drop n ops
  generalize ops.take n = HD at *
  generalize ops.drop n = TL at *
  have h : flowM P ops (killNew HD st).mem HD ls (killNew HD st) fun st2 => seqOps P M ops TL st2 K := h
  obtain ⟨rs, hflow, hK⟩ := flowM_extract HD ls 0 _ h
  obtain ⟨I, ρ, c⟩ := hc
  have c' : Conc N E st a { w with drawn := w.drawn + 1 } I ρ := c.grow ⟨⟨fun b o x h => c.held.cell b o x h, c.held.base⟩, ⟨rfl, rfl, rfl, Nat.le_refl _, fun _ _ _ => rfl⟩, fun _ _ _ => rfl⟩
  have hol : ops.length = HD.length + TL.length := by
    conv => lhs; rw [← hht]
    rw [List.length_append]
  have hz : ∀ j, lstd (Array.replicate ops.toArray.size false) j = false := fun j => getD_replicate_false _ _
  have := draw_goM (P := P) (M := M) (N := N) (E := E) (ls := ls) hQ hOps hht hok (flowM_len hflow) hmade (flowM_makes hflow) (fun i o r h1 h2 => by have := flowM_step 0 hflow i o r h1 h2; simpa using this) hK HD.length (List.range HD.length) (Array.replicate ops.toArray.size false) a { w with drawn := w.drawn + 1 }
    List.length_range List.nodup_range (fun j => by rw [hz]; simp) ⟨by simp, fun j oj _ h => Bool.noConfusion ((hz j).symm.trans h), fun t _ ht => getD_in (by simpa using ht) (hz t)⟩
    ⟨I, ρ, fun ρ' hρ => by
      rw [part_none _ _ _ _ fun j _ => hz j]
      exact conc_killNew HD st ρ c' ρ' fun s => (hρ s).imp (fun h => h) fun ⟨j, o, h1, h2, _, h4⟩ => ⟨o, List.mem_of_getElem? h1, h2, h4⟩⟩
  have e : ops.toArray.size = HD.length + TL.length := by simpa using hol
  rw [← e] at this
  exact this
end
end Go.AM
namespace Go.AM
open Go.RowKit (Below)

/-- every slot that the code writes lies in the frame; each region that draws its order has the form that is asked -/
def opOk (np N : Nat) (o : Oper) : Bool := match o.dst with | some t => decide (t < N) && (!makesR o.op || decide (np ≤ t)) | none => !makesR o.op || isCallV o.op
def opsIn (np N : Nat) (ops : List Oper) : Bool := ops.all (opOk np N)
def okX (np N : Nat) (X : List Nat) : Code → Bool
  | .seq a b => okX np N X a && okX np N X b
  | .cond _ a b => okX np N X a && okX np N X b
  | .block _ a => okX np N X a
  | .loop a => okX np N X a
  | .region id ops true => opsIn np N ops.toList && (X.contains id || drawOk ops.toList)
  | .region _ ops false => opsIn np N ops.toList
  | .scope _ => false
  | _ => true
def codeOk (np N : Nat) (c : Code) : Bool := okX np N [] c
theorem mark_nil : ∀ c : Code, mark [] c = c
  | .seq a b => by simp only [mark, mark_nil a, mark_nil b]
  | .cond _ a b => by simp only [mark, mark_nil a, mark_nil b]
  | .block _ a => by simp only [mark, mark_nil a]
  | .loop a => by simp only [mark, mark_nil a]
  | .region _ _ true => rfl
  | .region _ _ false => rfl
  | .scope _ => rfl
  | .skip => rfl
  | .exit _ => rfl
  | .ret => rfl
  | .rangeFunc _ _ _ _ => rfl
  | .label _ => rfl
  | .goto _ => rfl
  | .refuse _ => rfl

theorem opsIn_spec {np N : Nat} {E : Entry} (hE : E.args.length ≤ np) {ops : List Oper} (h : opsIn np N ops = true) : ∀ o ∈ ops, OpOk N E o := by
  intro o ho
  have := List.all_eq_true.1 h o ho
  unfold opOk at this
  constructor
  · intro t ht
    rw [ht] at this
    simp only [Bool.and_eq_true, decide_eq_true_eq] at this
    exact this.1
  · intro hm
    constructor
    · intro t ht
      rw [ht] at this
      simp only [Bool.and_eq_true, decide_eq_true_eq, Bool.or_eq_true, hm, Bool.not_true, Bool.false_eq_true, false_or] at this
      exact List.getElem?_eq_none (by omega)
    · intro ht
      rw [ht] at this
      simpa [hm] using this

section
variable {P : Program} {M : FuncId → List Bool} {np N : Nat} {E : Entry}

/-- what the code's end says, of the frame and the world -/
def QOut (N : Nat) (E : Entry) (Q : Exit → St → Prop) (e : Exit) (a' : Act) (w' : World) : Prop := ∃ st', Q e st' ∧ CC N E st' a' w'

theorem operAt_eq : ∀ (l : List Oper) (j : Nat), operAt l j = l[j]?
  | [], j => by simp [operAt]
  | o :: r, 0 => by simp [operAt]
  | o :: r, j + 1 => by simp [operAt, operAt_eq r j]

theorem alts_mem {P : Program} {M : FuncId → List Bool} {ops : List Oper} {f : Nat → OT} {st : St} {K : St → Prop} : ∀ {r : List Nat}, evalT P M ops (OT.alts f r) st K → ∀ i ∈ r, seqAt P M ops (operAt ops i) st fun st' => evalT P M ops (f i) st' K
  | [], _, i, h => by cases h
  | x :: r, ⟨h1, h2⟩, i, h => by
    rcases List.mem_cons.1 h with rfl | h
    · exact h1
    · exact alts_mem h2 i h
theorem ready_readyL {ops : List Oper} (l : List Nat) (listed : Array Bool) (hs : listed.size = ops.length) (hl : ∀ j, listed.getD j false = l.contains j) (i : Nat) : i ∈ Region.ready .any ops.toArray listed ↔ i ∈ readyL ops l := by
  rw [mem_ready]
  unfold readyL
  rw [List.mem_filter, List.mem_range]
  cases ho : ops[i]? with
  | none =>
    have : ¬ i < ops.length := by have := List.getElem?_eq_none_iff.1 ho; omega
    simp [ho, this]
  | some o =>
    have hi : i < ops.length := (List.getElem?_eq_some_iff.1 ho).1
    have e1 : listed.getD i true = false ↔ l.contains i = false := by
      rw [← hl]
      have hi' : i < listed.size := by omega
      simp [hi']
    have e2 : (∀ e ∈ o.after, Region.binds .any e = true → listed.getD e.on false = true) ↔ (o.after.toList.all fun e => !Region.binds .any e || l.contains e.on) = true := by
      rw [List.all_eq_true]
      constructor
      · intro h e he
        have := h e (by simpa using he)
        rw [hl] at this
        cases hb : Region.binds .any e with
        | true => simp only [this hb, Bool.or_true]
        | false => rfl
      · intro h e he hb
        have := h e (by simpa using he)
        rw [hl]
        simpa [hb] using this
    rw [List.getElem?_toArray, ho]
    constructor
    · rintro ⟨h1, o', h2, h3⟩
      cases h2
      refine ⟨hi, ?_⟩
      simp only [Bool.and_eq_true, Bool.not_eq_true']
      exact ⟨e1.1 h1, e2.1 h3⟩
    · rintro ⟨_, h2⟩
      simp only [Bool.and_eq_true, Bool.not_eq_true'] at h2
      exact ⟨e1.2 h2.1, o, rfl, e2.2 h2.2⟩

/-- whatever order is drawn, it is one of those that were gone through -/
theorem any_orders {K : St → Prop} {Q : Exit → Act → World → Prop} (hQ : ∀ a' w', AOut N E K a' w' → Q .normal a' w') {ops : List Oper} (hd : ∀ o ∈ ops, OpOk N E o) :
    ∀ (n : Nat) (l : List Nat) (listed : Array Bool) (st : St) (a : Act) (w : World), listed.size = ops.length → (∀ j, listed.getD j false = l.contains j) → evalT P M ops (treeOf ops n l) st K → CC N E st a w → wpAny P .any ops.toArray Q n listed a w := by
  intro n
  induction n with
  | zero =>
    intro l listed st a w hs hl h hc
    have hr := ready_readyL (ops := ops) l listed hs hl
    unfold treeOf at h
    split at h
    · rename_i he
      refine ⟨?_, hQ _ _ ⟨st, h, hc⟩⟩
      rw [List.eq_nil_iff_forall_not_mem]
      intro i hi
      have := (hr i).1 hi
      rw [List.isEmpty_iff.1 he] at this
      cases this
    · exact h.elim
  | succ n ih =>
    intro l listed st a w hs hl h hc
    have hr := ready_readyL (ops := ops) l listed hs hl
    unfold treeOf at h
    split at h
    · rename_i he
      refine ⟨fun _ => hQ _ _ ⟨st, h, hc⟩, fun i hi => ?_⟩
      have := (hr i).1 hi
      rw [List.isEmpty_iff.1 he] at this
      cases this
    · rename_i he
      refine ⟨fun h0 => ?_, fun i hi => ?_⟩
      · exfalso
        apply he
        rw [List.isEmpty_iff, List.eq_nil_iff_forall_not_mem]
        intro i hi
        have := (hr i).2 hi
        rw [h0] at this; cases this
      · have h1 := alts_mem h i ((hr i).1 hi)
        obtain ⟨_, o, ho, _⟩ := mem_ready.1 hi
        have ho' : ops[i]? = some o := by simpa using ho
        have hmem : o ∈ ops := List.mem_of_getElem? ho'
        have hi2 : i < ops.length := (List.getElem?_eq_some_iff.1 ho').1
        have hnext : ∀ a' w', AOut N E (fun st' => evalT P M ops (treeOf ops n (i :: l)) st' K) a' w' → wpAny P .any ops.toArray Q n (listed.setIfInBounds i true) a' w' := fun a' w' ⟨st', hk, hc'⟩ => by
          refine ih (i :: l) _ st' a' w' (by simpa using hs) (fun j => ?_) hk hc'
          by_cases hj : i = j
          · subst hj
            have : i < listed.size := by omega
            simp [this]
          · rw [getD_set_ne false hj, hl j]
            simp [Ne.symm hj]
        rw [operAt_eq, ho'] at h1
        obtain ⟨I, ρ, c⟩ := hc
        unfold wpOp
        simp only [ho]
        rcases guard_sound c ops o h1 with ⟨hw, h2⟩ | ⟨hw, h2⟩
        · rw [if_pos hw]
          obtain ⟨dst, op, ty, pos, after, g⟩ := o
          exact .inl (Oper.wp_mono hnext (aop_sound (Q := Q) c (hd _ hmem).1 (hd _ hmem).2 h2))
        · rw [if_neg (by simp [hw])]
          exact hnext _ _ ⟨_, h2, I, ρ, c.put _ (hd _ hmem).1 (.stat (.v _))⟩

/-- whatever order is drawn, one of the first operations coming behind some of the last or not -/
theorem draw_goF {ops HD TL : List Oper} {rs : List Res} {st0 : St} {f : Nat} {T : OT} {K : St → Prop} {Q : Exit → Act → World → Prop} (hQ : ∀ a' w', AOut N E K a' w' → Q .normal a' w')
    (hOps : ∀ o ∈ ops, OpOk N E o) (hht : HD ++ TL = ops) (hdis : DistinctD HD) (hdeps : depsB ops HD (ancT HD []) = true) (hseq : Region.seqB .any ops.toArray TL.length HD.length (firstN ops.length HD.length) = true) (hlen : rs.length = HD.length)
    (hwait : ∀ o ∈ TL, ∀ j, j < HD.length → j ≠ f → j ∈ bindOn o) (hnl : ∀ (i : Nat) (o oi : Oper) (d : Nat), HD[f]? = some o → o.dst = some d → HD[i]? = some oi → d ∉ looks ops oi) (hT : treeOf ops (TL.length + 1) ((List.range HD.length).filter fun j => !(j == f)) = T)
    (hmk : ∀ (j : Nat) (o : Oper) (r : Res), HD[j]? = some o → rs[j]? = some r → r.1 = true → makesB o.op = true) (hf : f < HD.length)
    (hflow : ∀ (i : Nat) (o : Oper) (r : Res), HD[i]? = some o → rs[i]? = some r → StepR P ops (killNew HD st0).mem o (part HD rs (fun j => decide (j ≠ f ∧ (j < i ∨ i = f))) 0 (killNew HD st0)) r)
    (hE : evalT P M ops T (part HD rs (fun j => decide (j ≠ f)) 0 (killNew HD st0)) K)
    (hK : seqOps P M ops TL (part HD rs (fun _ => true) 0 (killNew HD st0)) K) :
    ∀ (m : Nat) (U : List Nat) (listed : Array Bool) (a : Act) (w : World), U.length = m → U.Nodup → (∀ j, j ∈ U ↔ j < HD.length ∧ lstd listed j = false) →
      HeadInv .any ops.toArray HD.length listed → InvD N E HD rs (killNew HD st0) listed a w → wpAny P .any ops.toArray Q (m + TL.length) listed a w := by
  have hhd : ∀ {j : Nat} {o : Oper}, HD[j]? = some o → ops[j]? = some o := fun {j o} h => by
    rw [← hht, List.getElem?_append_left (List.getElem?_eq_some_iff.1 h).1]; exact h
  have hdh : ∀ {j : Nat}, j < HD.length → ops[j]? = HD[j]? := fun {j} h => by
    conv => lhs; rw [← hht]
    rw [List.getElem?_append_left h]
  have htl : ∀ j, TL[j]? = ops.toArray[HD.length + j]? := fun j => by
    rw [List.getElem?_toArray]
    have := List.getElem?_append_right (l₁ := HD) (l₂ := TL) (i := HD.length + j) (by omega)
    rw [hht] at this
    rw [this]; congr 1; omega
  have hol : ops.length = HD.length + TL.length := by
    conv => lhs; rw [← hht]
    rw [List.length_append]
  intro m
  induction m with
  | zero =>
    intro U listed a w hU _ hUm inv ⟨I, ρ, H⟩
    have hU0 : U = [] := List.eq_nil_of_length_eq_zero hU
    have hall : ∀ j, j < HD.length → lstd listed j = true := fun j hj => by
      cases h : lstd listed j with
      | true => rfl
      | false => have := (hUm j).2 ⟨hj, h⟩; rw [hU0] at this; cases this
    have hlist : listed = firstN ops.length HD.length := by
      apply Array.ext
      · simp [firstN, inv.size]
      · intro j h1 h2
        have hj : j < ops.length := by simpa [inv.size] using h1
        simp only [firstN, Array.getElem_map, Array.getElem_range]
        by_cases hjn : j < HD.length
        · have := hall j hjn
          simp only [lstd, Array.getD_eq_getD_getElem?, Array.getElem?_eq_getElem h1, Option.getD_some] at this
          rw [this]; simp [hjn]
        · have := inv.tail j (by omega) (by simpa using hj)
          simp only [Array.getD_eq_getD_getElem?, Array.getElem?_eq_getElem h1, Option.getD_some] at this
          rw [this]; simp [hjn]
    have hc := H ρ fun s => .inl rfl
    rw [part_congr' HD rs (M := fun _ => true) 0 _ fun j _ hj => hall j (by simpa using hj)] at hc
    rw [Nat.zero_add]
    refine wpAny_of_seq TL HD.length listed a w htl (by rw [hlist]; exact hseq) ?_
    exact seqOps_sound hQ ops TL _ a w (fun o ho => hOps o (by rw [← hht]; exact List.mem_append_right _ ho)) hK ⟨I, ρ, hc⟩
  | succ m ih =>
    intro U listed a w hU hnd hUm inv hinv
    rw [show m + 1 + TL.length = (m + TL.length) + 1 by omega]
    have hK0 : ∀ j, HD.length ≤ j → listed.getD j false = false := fun j hj => by
      by_cases h : j < ops.length
      · exact getD_both (inv.tail j hj (by simpa using h))
      · simp only [Array.getD_eq_getD_getElem?]
        rw [Array.getElem?_eq_none (by rw [inv.size]; simp; omega)]; rfl
    by_cases honly : ∀ j, j < HD.length → j ≠ f → lstd listed j = true
    case pos =>
      -- only the floating one may be left
      have hff : lstd listed f = false := by
        cases h : lstd listed f with
        | false => rfl
        | true =>
          cases U with
          | nil => cases hU
          | cons x _ =>
            obtain ⟨h1, h2⟩ := (hUm x).1 (by simp)
            by_cases hx : x = f
            · rw [hx, h] at h2; cases h2
            · rw [honly x h1 hx] at h2; cases h2
      have hm0 : m = 0 := by
        have h2 : ∀ x ∈ U, x = f := fun x hx => by
          obtain ⟨h1, h2⟩ := (hUm x).1 hx
          by_cases hxf : x = f
          · exact hxf
          · rw [honly x h1 hxf] at h2; cases h2
        match U, hU, hnd, h2 with
        | [], hU, _, _ => cases hU
        | [x], hU, _, _ => simp at hU; omega
        | x :: y :: r, hU, hnd, h2 =>
          have e1 := h2 x (by simp)
          have e2 := h2 y (by simp)
          rw [e1, e2] at hnd
          simp at hnd
      subst hm0
      obtain ⟨I, ρ, H⟩ := hinv
      have hc := H ρ fun s => .inl rfl
      have he : part HD rs (lstd listed) 0 (killNew HD st0) = part HD rs (fun j => decide (j ≠ f)) 0 (killNew HD st0) := part_congr' HD rs 0 _ fun j _ hj => by
        by_cases hjf : j = f
        · subst hjf; rw [hff]; simp
        · rw [honly j (by simpa using hj) hjf]; simp [hjf]
      rw [he] at hc
      rw [← hT] at hE
      rw [show 0 + TL.length + 1 = TL.length + 1 by omega]
      refine any_orders (K := K) hQ hOps (TL.length + 1) _ listed _ a w (by simpa using inv.size) (fun j => ?_) hE ⟨I, ρ, hc⟩
      rw [Bool.eq_iff_iff, List.contains_iff_mem, List.mem_filter, List.mem_range]
      by_cases hj : j < HD.length
      · by_cases hjf : j = f
        · subst hjf
          have := hff
          simp only [lstd] at this
          simp [this]
        · have := honly j hj hjf
          simp only [lstd] at this
          simp [this, hj, hjf]
      · have := hK0 j (by omega)
        simp [this, hj]
    obtain ⟨i1, hi1, hi1f, hi1u⟩ : ∃ j, j < HD.length ∧ j ≠ f ∧ lstd listed j = false := by
      by_cases hx : ∃ j, j < HD.length ∧ j ≠ f ∧ lstd listed j = false
      · exact hx
      · exact absurd (fun j hj hjf => by
          cases h : lstd listed j with
          | true => rfl
          | false => exact absurd ⟨j, hj, hjf, h⟩ hx) honly
    have hun : ∃ i0, i0 < HD.length ∧ lstd listed i0 = false := by
      cases U with
      | nil => cases hU
      | cons x _ => exact ⟨x, (hUm x).1 (by simp)⟩
    -- the first that is not listed is ready
    have hmin : ∃ i0, i0 < HD.length ∧ lstd listed i0 = false ∧ ∀ j, j < i0 → lstd listed j = true := by
      obtain ⟨i0, h1, h2⟩ := hun
      induction i0 using Nat.strongRecOn with
      | _ i0 ih0 =>
        by_cases hx : ∃ j, j < i0 ∧ lstd listed j = false
        · obtain ⟨j, hj, hj2⟩ := hx
          exact ih0 j hj (by omega) hj2
        · refine ⟨i0, h1, h2, fun j hj => ?_⟩
          cases h : lstd listed j with
          | true => rfl
          | false => exact absurd ⟨j, hj, h⟩ hx
    have hin : ∀ {j : Nat}, j < HD.length → j < listed.size := fun h => by rw [inv.size]; simp; omega
    refine ⟨fun h0 => ?_, fun i hi => ?_⟩
    · obtain ⟨i0, h1, h2, h3⟩ := hmin
      have ho : HD[i0]? = some (HD[i0]) := List.getElem?_eq_getElem h1
      have : i0 ∈ Region.ready .any ops.toArray listed := by
        rw [mem_ready]
        refine ⟨getD_in (hin h1) h2, HD[i0], by rw [List.getElem?_toArray]; exact hhd ho, fun e he hb => ?_⟩
        exact h3 _ ((depsB_spec hdeps ho).1 e.on (mem_bindOn.2 ⟨e, he, hb, rfl⟩))
      rw [h0] at this; cases this
    · have hin' : i < HD.length := by
        rcases Nat.lt_or_ge i HD.length with h | h
        · exact h
        · obtain ⟨_, oi, hoi, hall⟩ := mem_ready.1 hi
          have ho2 : oi ∈ TL := by
            have := htl (i - HD.length)
            rw [show HD.length + (i - HD.length) = i by omega, hoi] at this
            exact List.mem_of_getElem? this
          obtain ⟨e, he, hb, hon⟩ := mem_bindOn.1 (hwait oi ho2 i1 hi1 hi1f)
          have := hall e he hb
          rw [hon] at this
          have h2 := hi1u
          simp only [lstd] at h2
          rw [h2] at this; cases this
      obtain ⟨hiun, oi, hoi, hall⟩ := mem_ready.1 hi
      have ho : HD[i]? = some oi := by rw [← hdh hin', ← List.getElem?_toArray]; exact hoi
      have hr : rs[i]? = some (rs[i]'(by omega)) := List.getElem?_eq_getElem _
      generalize rs[i]'(by omega) = r at hr
      have hst := hflow i oi r ho hr
      have hun' : lstd listed i = false := getD_both hiun
      obtain ⟨hb, hl⟩ := depsB_spec hdeps ho
      have hclosed : ∀ j o, HD[j]? = some o → lstd listed j = true → ∀ q ∈ bindOn o, lstd listed q = true := fun j o h1 h2 q hq => by
        obtain ⟨e, he, hbd, rfl⟩ := mem_bindOn.1 hq
        exact inv.closed j o (by rw [List.getElem?_toArray]; exact hhd h1) h2 e he hbd
      have hlook : ∀ u ∈ looks ops oi, (part HD rs (fun j => decide (j ≠ f ∧ (j < i ∨ i = f))) 0 (killNew HD st0)).fr u = (part HD rs (lstd listed) 0 (killNew HD st0)).fr u := fun u hu => by
        refine part_fr HD rs 0 _ _ rfl fun j oj h1 h2 => ?_
        obtain ⟨h3, h4⟩ := hl u hu j oj h1 h2
        have hjf : j ≠ f := fun e => by subst e; exact hnl i oj oi u h1 h2 ho hu
        have := ancT_spec (lstd listed) HD hclosed HD [] 0 rfl (fun j => by simp) (fun i o hi => by omega) i oi (by simpa using hin') ho (fun q hq => by
          obtain ⟨e, he, hbd, rfl⟩ := mem_bindOn.1 hq
          exact hall e he hbd) j h4
        rw [Nat.zero_add, this]; simp [h3, hjf]
      have hst' : StepR P ops (killNew HD st0).mem oi (part HD rs (lstd listed) 0 (killNew HD st0)) r := by
        unfold StepR at hst ⊢
        rw [← gsel_congr hlook]
        rcases hst with ⟨h1, h2, h3⟩ | h
        · exact .inl ⟨h1, fop_congr (ev_congr hlook) h2, h3⟩
        · exact .inr h
      have step := draw_step (Q := Q) (fun s => killNew_mem HD st0) (mem_keeps (fun s => killNew_mem HD st0) (fun _ _ h => h) hmk _) hdis (hOps oi (by rw [← hht]; exact List.mem_append_left _ (List.mem_of_getElem? ho))) ho hr hun' hlen hmk hst' (hin hin') hinv
      have next : ∀ a' w', InvD N E HD rs (killNew HD st0) (listed.setIfInBounds i true) a' w' → wpAny P .any ops.toArray Q (m + TL.length) (listed.setIfInBounds i true) a' w' := fun a' w' h => by
        refine ih (U.erase i) _ a' w' (by rw [List.length_erase_of_mem ((hUm i).2 ⟨hin', hun'⟩), hU]; rfl) (hnd.erase i) (fun j => ?_) (inv.set hi hin') h
        rw [hnd.mem_erase_iff, hUm]
        by_cases hj : j = i
        · subst hj
          simp [lstd, hin hin']
        · have : lstd (listed.setIfInBounds i true) j = lstd listed j := getD_set_ne false (Ne.symm hj)
          rw [this]; simp [hj]
      unfold wpOp
      simp only [hoi]
      split
      · rename_i hw
        rw [if_pos hw] at step
        exact .inl (Oper.wp_mono next step)
      · rename_i hw
        rw [if_neg hw] at step
        exact next _ _ step


theorem float_sound {id : Nat} {ops : List Oper} {n f : Nat} {T : OT} {st : St} {a : Act} {w : World} {K : St → Prop} {Q : Exit → Act → World → Prop} (hQ : ∀ a' w', AOut N E K a' w' → Q .normal a' w') (hm : P.follows .mixedOrders = true)
    (hOps : ∀ o ∈ ops, OpOk N E o) (hok : floatOk ops n f T = true) (h : floatP P M ops (ops.take n) (ops.drop n) f T st K .mk .mk) (hc : CC N E st a w) : (Code.region id ops.toArray true).wp P Q a w := by
  refine wp_region_any hm ?_
  unfold floatOk at hok
  simp only [Bool.and_eq_true] at hok
  obtain ⟨⟨⟨⟨⟨hdis, hdeps⟩, hseq⟩, hwait⟩, hnl⟩, hT⟩ := hok
  have hdis := distinctB_spec hdis
  have hht : ops.take n ++ ops.drop n = ops := List.take_append_drop n ops
  generalize ops.take n = HD at *
  generalize ops.drop n = TL at *
  have hT := of_decide_eq_true hT
  have hwait : ∀ o ∈ TL, ∀ j, j < HD.length → j ≠ f → j ∈ bindOn o := fun o ho j hj hjf => by
    have := List.all_eq_true.1 (List.all_eq_true.1 hwait o ho) j (List.mem_range.2 hj)
    simp only [Bool.or_eq_true, beq_iff_eq, List.contains_iff_mem] at this
    exact this.resolve_left hjf
  unfold floatP at h
  cases hp : HD[f]? with
  | none => rw [hp] at h; exact h.elim
  | some p =>
  rw [hp] at h hnl
  have hnl' : ∀ i o oi d, HD[f]? = some o → o.dst = some d → HD[i]? = some oi → d ∉ looks ops oi := fun i o oi d h1 h2 h3 => by
    rw [hp] at h1; cases h1
    simp only [h2] at hnl
    have := List.all_eq_true.1 hnl oi (List.mem_of_getElem? h3)
    simpa using this
  have h : flowOps P ops (killNew HD st).mem (HD.take f) (killNew HD st) fun s1 => flowOps P ops (killNew HD st).mem (HD.drop (f + 1)) s1 fun s2 => flowOps P ops (killNew HD st).mem [p] s2 (fun s3 => seqOps P M ops TL s3 K) ∧ evalT P M ops T s2 K := h
  obtain ⟨r1, hf1, h⟩ := flow_extract (HD.take f) 0 _ h
  obtain ⟨r2, hf2, h⟩ := flow_extract (HD.drop (f + 1)) (f + 1) _ h
  obtain ⟨h, hE⟩ := h
  obtain ⟨r3, hf3, hK⟩ := flow_extract [p] f _ h
  have hl1 := flow_len hf1
  have hl2 := flow_len hf2
  obtain ⟨r0, rfl⟩ : ∃ r0, r3 = [r0] := by
    have := flow_len hf3
    match r3, this with
    | [r0], _ => exact ⟨r0, rfl⟩
  obtain ⟨hmlt, hpe⟩ := List.getElem?_eq_some_iff.1 hp
  have hHD : HD = HD.take f ++ p :: HD.drop (f + 1) := by
    rw [← hpe, ← List.drop_eq_getElem_cons hmlt, List.take_append_drop]
  have hlm : (HD.take f).length = f := by rw [List.length_take]; omega
  have hlen : (r1 ++ r0 :: r2).length = HD.length := by
    rw [List.length_append, List.length_cons, hl1, hl2, hlm, List.length_drop]; omega
  have hr0 : (r1 ++ r0 :: r2)[f]? = some r0 := by
    rw [List.getElem?_append_right (by omega)]; simp [hl1, hlm]
  have hpart : ∀ (L : Nat → Bool) (s : St), part HD (r1 ++ r0 :: r2) L 0 s = part (HD.drop (f + 1)) r2 L (f + 1) (if L f then app1 p r0 (part (HD.take f) r1 L 0 s) else part (HD.take f) r1 L 0 s) := fun L s => by
    conv => lhs; rw [hHD]
    rw [part_append _ _ _ _ _ _ _ hl1, hlm]
    simp only [part, Nat.zero_add]
  have hget1 : ∀ i, i < f → HD[i]? = (HD.take f)[i]? ∧ (r1 ++ r0 :: r2)[i]? = r1[i]? := fun i hi => by
    exact ⟨by rw [List.getElem?_take, if_pos hi], List.getElem?_append_left (by omega)⟩
  have hget2 : ∀ i, HD[f + 1 + i]? = (HD.drop (f + 1))[i]? ∧ (r1 ++ r0 :: r2)[f + 1 + i]? = r2[i]? := fun i => by
    refine ⟨by rw [List.getElem?_drop], ?_⟩
    rw [List.getElem?_append_right (by omega), hl1, hlm, show f + 1 + i - f = i + 1 by omega, List.getElem?_cons_succ]
  have hmk : ∀ (j : Nat) (o : Oper) (r : Res), HD[j]? = some o → (r1 ++ r0 :: r2)[j]? = some r → r.1 = true → makesB o.op = true := by
    intro j o r h1 h2 h3
    rcases Nat.lt_trichotomy j f with hj | hj | hj
    · obtain ⟨g1, g2⟩ := hget1 j hj
      rw [g1] at h1; rw [g2] at h2
      exact flowR_makes hf1 j o r h1 h2 h3
    · subst hj; rw [hr0] at h2; rw [hp] at h1; cases h1; cases h2
      exact flowR_makes hf3 0 p r0 rfl rfl h3
    · obtain ⟨g1, g2⟩ := hget2 (j - (f + 1))
      rw [show f + 1 + (j - (f + 1)) = j by omega] at g1 g2
      rw [g1] at h1; rw [g2] at h2
      exact flowR_makes hf2 _ o r h1 h2 h3
  -- the state in which all but the floating one have been carried out
  have hS : part HD (r1 ++ r0 :: r2) (fun j => decide (j ≠ f)) 0 (killNew HD st) = part (HD.drop (f + 1)) r2 (fun _ => true) (f + 1) (part (HD.take f) r1 (fun _ => true) 0 (killNew HD st)) := by
    rw [hpart, if_neg (by simp)]
    rw [part_congr' (HD.take f) r1 0 _ (M := fun _ => true) fun j _ hj2 => by rw [hlm] at hj2; simp; omega]
    exact part_congr' _ _ _ _ fun j hj _ => by simp; omega
  have hflow : ∀ (i : Nat) (o : Oper) (r : Res), HD[i]? = some o → (r1 ++ r0 :: r2)[i]? = some r → StepR P ops (killNew HD st).mem o (part HD (r1 ++ r0 :: r2) (fun j => decide (j ≠ f ∧ (j < i ∨ i = f))) 0 (killNew HD st)) r := by
    intro i o r h1 h2
    rcases Nat.lt_trichotomy i f with hj | hj | hj
    · obtain ⟨g1, g2⟩ := hget1 i hj
      rw [g1] at h1; rw [g2] at h2
      have := flow_step 0 hf1 i o r h1 h2
      rw [hpart, part_none _ _ _ _ fun j hj => by simp; omega, if_neg (by simp)]
      rw [part_congr' (HD.take f) r1 0 _ (M := fun j => decide (j < 0 + i)) fun j _ hj2 => by rw [hlm] at hj2; rw [decide_eq_decide]; omega]
      exact this
    · subst hj
      rw [hp] at h1; rw [hr0] at h2; cases h1; cases h2
      have := flow_step i hf3 0 p r0 rfl rfl
      rw [part_none _ _ _ _ fun j hj => by simp; omega] at this
      have e : (fun j => decide (j ≠ i ∧ (j < i ∨ i = i))) = fun j => decide (j ≠ i) := by funext j; simp
      rw [e, hS]
      exact this
    · obtain ⟨g1, g2⟩ := hget2 (i - (f + 1))
      rw [show f + 1 + (i - (f + 1)) = i by omega] at g1 g2
      rw [g1] at h1; rw [g2] at h2
      have := flow_step (f + 1) hf2 _ o r h1 h2
      rw [show f + 1 + (i - (f + 1)) = i by omega] at this
      rw [hpart, if_neg (by simp)]
      rw [part_congr' (HD.take f) r1 0 _ (M := fun _ => true) fun j _ hj2 => by rw [hlm] at hj2; simp; omega]
      rw [part_congr' (HD.drop (f + 1)) r2 _ _ (M := fun j => decide (j < i)) fun j hj1 _ => by rw [decide_eq_decide]; omega]
      exact this
  have hE' : evalT P M ops T (part HD (r1 ++ r0 :: r2) (fun j => decide (j ≠ f)) 0 (killNew HD st)) K := by rw [hS]; exact hE
  have hKK : seqOps P M ops TL (part HD (r1 ++ r0 :: r2) (fun _ => true) 0 (killNew HD st)) K := by
    have e := part_set HD (r1 ++ r0 :: r2) (L := fun j => decide (j ≠ f)) (M := fun _ => true) 0 (killNew HD st) f p r0 hdis hp hr0 (by simp) rfl (fun j hj => by simp at hj; simp [hj])
    rw [e, hS]
    simpa [part] using hK
  obtain ⟨I, ρ, c⟩ := hc
  have c' : Conc N E st a { w with drawn := w.drawn + 1 } I ρ := c.grow ⟨⟨fun b o x h => c.held.cell b o x h, c.held.base⟩, ⟨rfl, rfl, rfl, Nat.le_refl _, fun _ _ _ => rfl⟩, fun _ _ _ => rfl⟩
  have hol : ops.length = HD.length + TL.length := by
    conv => lhs; rw [← hht]
    rw [List.length_append]
  have hz : ∀ j, lstd (Array.replicate ops.toArray.size false) j = false := fun j => getD_replicate_false _ _
  have := draw_goF (P := P) (M := M) (N := N) (E := E) (f := f) hQ hOps hht hdis hdeps hseq hlen hwait hnl' hT hmk hmlt hflow hE' hKK HD.length (List.range HD.length) (Array.replicate ops.toArray.size false) a { w with drawn := w.drawn + 1 }
    List.length_range List.nodup_range (fun j => by rw [hz]; simp) ⟨by simp, fun j oj _ h => Bool.noConfusion ((hz j).symm.trans h), fun t _ ht => getD_in (by simpa using ht) (hz t)⟩
    ⟨I, ρ, fun ρ' hρ => by
      rw [part_none _ _ _ _ fun j _ => hz j]
      exact conc_killNew HD st ρ c' ρ' fun s => (hρ s).imp (fun h => h) fun ⟨j, o, h1, h2, _, h4⟩ => ⟨o, List.mem_of_getElem? h1, h2, h4⟩⟩
  have e : ops.toArray.size = HD.length + TL.length := by simpa using hol
  rw [← e] at this
  exact this

theorem any_region_sound {id : Nat} {ops : Array Oper} {st : St} {a : Act} {w : World} {K : St → Prop} {Q : Exit → Act → World → Prop} (hQ : ∀ a' w', AOut N E K a' w' → Q .normal a' w') (hm : P.follows .mixedOrders = true)
    (hd : ∀ o ∈ ops.toList, OpOk N E o) (h : AnyP P M ops.toList st K .mk .mk) (hc : CC N E st a w) : (Code.region id ops true).wp P Q a w := by
  obtain ⟨ops⟩ := ops
  rcases h with ⟨R, h1, h2⟩ | ⟨n, h1, h2⟩ | ⟨n, m, t, h1, h2⟩ | ⟨n, f, T, R, h1, h2, h3⟩ | ⟨n, ls, h1, h2⟩
  case inr.inl => exact draw_soundG hQ hm hd (List.take_append_drop n ops) h1 h2 hc
  case inr.inr.inl => exact piv_sound hQ hm hd h1 h2 hc
  case inr.inr.inr.inr => exact made_sound hQ hm hd h1 h2 hc
  case inr.inr.inr.inl => exact float_sound (K := R) (fun a' w' ⟨st', hk, hcc⟩ => hQ _ _ ⟨st', h3 _ hk, hcc⟩) hm hd h1 h2 hc
  refine wp_region_any hm ?_
  obtain ⟨I, ρ, c⟩ := hc
  have c' : Conc N E st a { w with drawn := w.drawn + 1 } I ρ := c.grow ⟨⟨fun b o x h => c.held.cell b o x h, c.held.base⟩, ⟨rfl, rfl, rfl, Nat.le_refl _, fun _ _ _ => rfl⟩, fun _ _ _ => rfl⟩
  exact any_orders (K := R) (fun a' w' ⟨st', hk, hcc⟩ => hQ _ _ ⟨st', h2 _ hk, hcc⟩) hd ops.length [] _ st a _ (by simp) (fun j => by rw [getD_replicate_false]; rfl) h1 ⟨I, ρ, c'⟩

/-- THE ABSTRACT MACHINE IS SOUND -/
theorem AWP_sound (hm : P.follows .mixedOrders = true) (hE : E.args.length ≤ np) (h6 : E.args.length ≤ 6) : ∀ (X : List Nat) (c : Code) (Q : Exit → St → Prop) (st : St) (a : Act) (w : World), okX np N X c = true → AWP P M (mark X c) Q st → CC N E st a w → c.wp P (QOut N E Q) a w
  | X, .skip, Q, st, a, w, _, h, hc => wp_skip ⟨st, h, hc⟩
  | X, .seq x y, Q, st, a, w, hok, h, hc => by
    simp only [mark] at h
    simp only [okX] at hok
    simp only [Bool.and_eq_true] at hok
    rw [AWP_seq] at h
    refine wp_seq (Code.wp_mono ?_ (AWP_sound hm hE h6 X x _ st a w hok.1 h hc))
    rintro e a' w' ⟨st', hq, hc'⟩
    cases e with
    | normal => exact AWP_sound hm hE h6 X y Q st' a' w' hok.2 hq hc'
    | exit id => exact ⟨st', hq, hc'⟩
    | goto l => exact ⟨st', hq, hc'⟩
    | ret => exact ⟨st', hq, hc'⟩
    | panic ch => exact ⟨st', hq, hc'⟩
    | outgrown => exact ⟨st', hq, hc'⟩
  | X, .cond c x y, Q, st, a, w, hok, h, hc => by
    simp only [mark] at h
    simp only [okX] at hok
    simp only [Bool.and_eq_true] at hok
    rw [AWP_cond] at h
    obtain ⟨I, ρ, hcc⟩ := hc
    unfold condQ at h
    split at h
    · rename_i b hb
      have hr := hcc.ev c
      rw [hb] at hr
      refine wp_cond (rep_v hr) ?_
      cases b with
      | true => exact AWP_sound hm hE h6 X x Q st a w hok.1 (h.1 rfl) ⟨I, ρ, hcc⟩
      | false => exact AWP_sound hm hE h6 X y Q st a w hok.2 (h.2 rfl) ⟨I, ρ, hcc⟩
    · exact h.elim
  | X, .block id x, Q, st, a, w, hok, h, hc => by
    simp only [mark] at h
    simp only [okX] at hok
    rw [AWP_block] at h
    refine wp_block (Code.wp_mono ?_ (AWP_sound hm hE h6 X x _ st a w hok h hc))
    rintro e a' w' ⟨st', hq, hc'⟩
    cases e with
    | normal => exact ⟨st', hq, hc'⟩
    | exit id' =>
      simp only [blockQ] at hq
      simp only [Exit.inBlock]
      split at hq
      · rename_i e; rw [if_pos e]; exact ⟨st', hq, hc'⟩
      · rename_i e; rw [if_neg e]; exact ⟨st', hq, hc'⟩
    | goto l => exact ⟨st', hq, hc'⟩
    | ret => exact ⟨st', hq, hc'⟩
    | panic ch => exact ⟨st', hq, hc'⟩
    | outgrown => exact ⟨st', hq, hc'⟩
  | X, .loop x, Q, st, a, w, hok, h, hc => by
    simp only [mark] at h
    simp only [okX] at hok
    rw [AWP] at h
    obtain ⟨J, B, ⟨st0, hent, h0⟩, hstep⟩ := h
    -- so many rounds at the most as the invariant's own number leaves
    have key : ∀ (R : Nat → St → Prop), (∀ k st', R k st' → k < B ∧ ∃ st'', Ent st' st'' ∧ J (k + 1) st'') → (∀ k st1, k ≤ B → J k st1 → AWP P M (mark X x) (thenQ (R k) Q) st1) →
        ∀ (m k : Nat) (st : St) (a : Act) (w : World), B - k = m → k ≤ B → J k st → CC N E st a w → Code.rounds P x (QOut N E Q) (m + 1) a w := by
      intro R hR hstep m
      induction m with
      | zero =>
        intro k st a w hk hle hj hcc
        rw [rounds_succ]
        refine Code.wp_mono ?_ (AWP_sound hm hE h6 X x _ st a w hok (hstep k st hle hj) hcc)
        rintro e a' w' ⟨st', hq, hc'⟩
        cases e with
        | normal => obtain ⟨hlt, _⟩ := hR k st' hq; omega
        | exit id => exact ⟨st', hq, hc'⟩
        | goto l => exact ⟨st', hq, hc'⟩
        | ret => exact ⟨st', hq, hc'⟩
        | panic ch => exact ⟨st', hq, hc'⟩
        | outgrown => exact ⟨st', hq, hc'⟩
      | succ m ih =>
        intro k st a w hk hle hj hcc
        rw [rounds_succ]
        refine Code.wp_mono ?_ (AWP_sound hm hE h6 X x _ st a w hok (hstep k st hle hj) hcc)
        rintro e a' w' ⟨st', hq, hc'⟩
        cases e with
        | normal => obtain ⟨hlt, st'', he, hj'⟩ := hR k st' hq; exact ih (k + 1) st'' a' w' (by omega) (by omega) hj' (he _ _ _ _ h6 hc')
        | exit id => exact ⟨st', hq, hc'⟩
        | goto l => exact ⟨st', hq, hc'⟩
        | ret => exact ⟨st', hq, hc'⟩
        | panic ch => exact ⟨st', hq, hc'⟩
        | outgrown => exact ⟨st', hq, hc'⟩
    rcases hstep with hstep | hstep
    · exact wp_loop_rounds _ (key (fun k st' => k < B ∧ J (k + 1) st') (fun k st' h => ⟨h.1, st', .refl _, h.2⟩) hstep _ 0 st0 a w rfl (Nat.zero_le _) h0 (hent _ _ _ _ h6 hc))
    · exact wp_loop_rounds _ (key (fun k st' => k < B ∧ ∃ st'', Ent st' st'' ∧ J (k + 1) st'') (fun k st' h => h) hstep _ 0 st0 a w rfl (Nat.zero_le _) h0 (hent _ _ _ _ h6 hc))
  | X, .exit id, Q, st, a, w, _, h, hc => wp_exit ⟨st, by simp only [mark] at h; rw [AWP_exit] at h; exact h, hc⟩
  | X, .ret, Q, st, a, w, _, h, hc => wp_ret ⟨st, by simp only [mark] at h; rw [AWP_ret] at h; exact h, hc⟩
  | X, .region id ops true, Q, st, a, w, hok, h, hc => by
    simp only [mark] at h
    simp only [okX, Bool.and_eq_true, Bool.or_eq_true] at hok
    by_cases hX : X.contains id = true
    · rw [if_pos hX, AWP] at h
      exact any_region_sound (K := Q .normal) (fun a' w' hh => hh) hm (opsIn_spec hE hok.1) h hc
    · rw [if_neg hX, AWP] at h
      exact draw_sound (K := Q .normal) (fun a' w' hh => hh) hm (opsIn_spec hE hok.1) (hok.2.resolve_left hX) h hc
  | X, .region id ops false, Q, st, a, w, hok, h, hc => by
    simp only [mark] at h
    simp only [okX] at hok
    rw [AWP] at h
    refine wp_region_list ?_
    exact seqOps_sound (K := Q .normal) (fun a' w' hh => hh) ops.toList ops.toList st a w (opsIn_spec hE hok) h hc
  | X, .rangeFunc _ _ _ _, _, _, _, _, _, h, _ => by unfold AWP at h; exact h.elim
  | X, .scope _, _, _, _, _, hok, _, _ => by simp only [okX] at hok; cases hok
  | X, .label _, _, _, _, _, _, h, _ => by unfold AWP at h; exact h.elim
  | X, .goto _, _, _, _, _, _, h, _ => by unfold AWP at h; exact h.elim
  | X, .refuse _, _, _, _, _, _, h, _ => by unfold AWP at h; exact h.elim

end
end Go.AM
namespace Go.AM
open Go.RowKit (Below)

section
variable {P : Program} {M : FuncId → List Bool} {np N : Nat} {E : Entry} {st : St} {a : Act} {w w' : World} {I I' J : Gh} {ρ ρ' : Pl} {mem mem' : Nat → Option AV}

/-- A tree with places of its own: its nodes are those that stand at the places of S, or parts of them. -/
structure Closed (I : Gh) (ρ : Pl) (w : World) (mem : Nat → Option AV) (S : List (Nat × Path)) (X : AV) (π : Path → Option Plc) : Prop where
  row : ∀ p, NodeOk I π w p (X.at p)
  src : ∀ p k, (X.at p).isNode = true → π p = some k → ∃ t q p' R k0, (t, q) ∈ S ∧ mem t = some R ∧ (R.at (q ++ p')).isNode = true ∧ ρ t (q ++ p') = some k0 ∧ k0.b = k.b
  inj : ∀ p k p' k', (X.at p).isNode = true → π p = some k → (X.at p').isNode = true → π p' = some k' → k.b = k'.b → p = p'
structure ClosedL (I : Gh) (ρ : Pl) (w : World) (mem : Nat → Option AV) (S : List (Nat × Path)) (l : List AV) (Φ : Nat → Path → Option Plc) : Prop where
  row : ∀ j p, NodeOk I (Φ j) w p ((l.getD j .any).at p)
  src : ∀ j p k, ((l.getD j .any).at p).isNode = true → Φ j p = some k → ∃ t q p' R k0, (t, q) ∈ S ∧ mem t = some R ∧ (R.at (q ++ p')).isNode = true ∧ ρ t (q ++ p') = some k0 ∧ k0.b = k.b
  inj : ∀ j p k j' p' k', ((l.getD j .any).at p).isNode = true → Φ j p = some k → ((l.getD j' .any).at p').isNode = true → Φ j' p' = some k' → k.b = k'.b → j = j' ∧ p = p'

theorem closed_stat {X : AV} {S : List (Nat × Path)} {π : Path → Option Plc} (h : ∀ p, (X.at p).isNode = false) : Closed I ρ w mem S X π :=
  ⟨fun p => node_false (h p), (fun p k q => by rw [h] at q; cases q), fun p k p' k' q => by rw [h] at q; cases q⟩
theorem Closed.sub {S S' : List (Nat × Path)} {X : AV} {π : Path → Option Plc} (h : Closed I ρ w mem S X π) (hs : ∀ x ∈ S, x ∈ S') : Closed I ρ w mem S' X π :=
  ⟨h.row, fun p k q1 q2 => by obtain ⟨t, q, p', R, k0, g1, g2⟩ := h.src p k q1 q2; exact ⟨t, q, p', R, k0, hs _ g1, g2⟩, h.inj⟩
theorem closedL_nil : ClosedL I ρ w mem [] [] (fun _ _ => none) := by
  have e : ∀ j p, ((([] : List AV).getD j .any).at p).isNode = false := fun j p => by
    have : ([] : List AV).getD j .any = .any := rfl
    rw [this, any_at]; rfl
  exact ⟨fun j p => node_false (e j p), (fun j p k q => by rw [e] at q; cases q), fun j p k j' p' k' q => by rw [e] at q; cases q⟩
def Aprt (x y : Nat × Path) : Prop := y.1 ≠ x.1 ∨ Div x.2 y.2
theorem Aprt.symm {x y : Nat × Path} (h : Aprt x y) : Aprt y x := h.imp Ne.symm Div.symm
theorem closedL_cons (m : Sep J ρ w mem) {X : AV} {l : List AV} {π : Path → Option Plc} {Φ : Nat → Path → Option Plc} {S S' : List (Nat × Path)} (h : Closed I ρ w mem S X π) (h' : ClosedL I ρ w mem S' l Φ) (hap : ∀ x ∈ S, ∀ y ∈ S', Aprt x y) :
    ClosedL I ρ w mem (S ++ S') (X :: l) (fun j => match j with | 0 => π | j + 1 => Φ j) := by
  have cross : ∀ p k j' p' k', (X.at p).isNode = true → π p = some k → ((l.getD j' .any).at p').isNode = true → Φ j' p' = some k' → k.b ≠ k'.b := by
    intro p k j' p' k' q1 q2 q3 q4 he
    obtain ⟨t, q, r, R, k0, g1, g2, g3, g4, g5⟩ := h.src p k q1 q2
    obtain ⟨t', q', r', R', k0', g1', g2', g3', g4', g5'⟩ := h'.src j' p' k' q3 q4
    obtain ⟨x1, x2⟩ := m.inj t R _ k0 t' R' _ k0' g2 g3 g4 g2' g3' g4' (by rw [g5, g5', he])
    rcases hap _ g1 _ g1' with e | e
    · exact e x1.symm
    · exact div_of_div e (List.prefix_append q r) (x2 ▸ List.prefix_append q' r')
  refine ⟨fun j p => ?_, fun j p k q1 q2 => ?_, fun j p k j' p' k' q1 q2 q3 q4 he => ?_⟩
  · cases j with
    | zero => exact h.row p
    | succ j => exact h'.row j p
  · cases j with
    | zero =>
      obtain ⟨t, q, p', R, k0, g1, g2⟩ := h.src p k q1 q2
      exact ⟨t, q, p', R, k0, List.mem_append_left _ g1, g2⟩
    | succ j =>
      obtain ⟨t, q, p', R, k0, g1, g2⟩ := h'.src j p k q1 q2
      exact ⟨t, q, p', R, k0, List.mem_append_right _ g1, g2⟩
  · cases j with
    | zero =>
      cases j' with
      | zero => exact ⟨rfl, h.inj p k p' k' q1 q2 q3 q4 he⟩
      | succ j' => exact (cross p k j' p' k' q1 q2 q3 q4 he).elim
    | succ j =>
      cases j' with
      | zero => exact (cross p' k' j p k q3 q4 q1 q2 he.symm).elim
      | succ j' =>
        obtain ⟨x1, x2⟩ := h'.inj j p k j' p' k' q1 q2 q3 q4 he
        exact ⟨by rw [x1], x2⟩

def rowP (Φ : Nat → Path → Option Plc) : Path → Option Plc
  | [] => none
  | (0, j) :: p => Φ j p
  | (_ + 1, _) :: _ => none
theorem closed_row {l : List AV} {Φ : Nat → Path → Option Plc} {S : List (Nat × Path)} {X : AV} (hX : (∃ fs, X = .agg fs) ∨ ∃ fs, X = .tup fs) (hat : ∀ i j, X.cellAt i j = match i with | 0 => l.getD j .any | _ + 1 => .any) (h : ClosedL I ρ w mem S l Φ) : Closed I ρ w mem S X (rowP Φ) := by
  have h0 : X.isNode = false := by rcases hX with ⟨fs, rfl⟩ | ⟨fs, rfl⟩ <;> rfl
  have h1 : ∀ i j p, X.at ((i + 1, j) :: p) = .any := fun i j p => by
    show AV.at (X.cellAt (i + 1) j) p = _
    rw [hat, any_at]
  have h2 : ∀ j p, X.at ((0, j) :: p) = (l.getD j .any).at p := fun j p => by
    show AV.at (X.cellAt 0 j) p = _
    rw [hat]
  refine ⟨fun p => ?_, fun p k q1 q2 => ?_, fun p k p' k' q1 q2 q3 q4 he => ?_⟩
  · match p with
    | [] => exact node_false h0
    | (0, j) :: p => rw [h2]; exact node_shift (h.row j p) (fun r => rfl)
    | (i + 1, j) :: p => rw [h1]; trivial
  · match p, q1, q2 with
    | [], q1, _ => have q1 : X.isNode = true := q1; rw [h0] at q1; cases q1
    | (0, j) :: p, q1, q2 => rw [h2] at q1; exact h.src j p k q1 q2
    | (i + 1, j) :: p, q1, _ => rw [h1] at q1; cases q1
  · match p, q1, q2 with
    | [], q1, _ => have q1 : X.isNode = true := q1; rw [h0] at q1; cases q1
    | (i + 1, j) :: p, q1, _ => rw [h1] at q1; cases q1
    | (0, j) :: p, q1, q2 =>
      match p', q3, q4 with
      | [], q3, _ => have q3 : X.isNode = true := q3; rw [h0] at q3; cases q3
      | (i + 1, j') :: p', q3, _ => rw [h1] at q3; cases q3
      | (0, j') :: p', q3, q4 =>
        rw [h2] at q1 q3
        obtain ⟨x1, x2⟩ := h.inj j p k j' p' k' q1 q2 q3 q4 he
        rw [x1, x2]
theorem closed_agg {l : List AV} {Φ : Nat → Path → Option Plc} {S : List (Nat × Path)} (h : ClosedL I ρ w mem S l Φ) : Closed I ρ w mem S (.agg l) (rowP Φ) :=
  closed_row (.inl ⟨l, rfl⟩) (fun i j => by cases i <;> rfl) h
theorem closed_tup {l : List AV} {Φ : Nat → Path → Option Plc} {S : List (Nat × Path)} (h : ClosedL I ρ w mem S l Φ) : Closed I ρ w mem S (.tup l) (rowP Φ) :=
  closed_row (.inr ⟨l, rfl⟩) (fun i j => by cases i <;> rfl) h

/-- a nil slice may be taken for an empty one, whatever for anything -/
theorem le_closed {c b : AV} {v : Value} {s : List (Nat × Path)} (hc : ∃ π, CellOk I (π []) c v ∧ Closed I ρ w mem s c π) (hn : c = .v (.slice none 0 0) → v = .slice none 0 0) (hb : leC c b) : ∃ π, CellOk I (π []) b v ∧ Closed I ρ w mem s b π := by
  unfold leC at hb
  split at hb
  · exact ⟨fun _ => none, rs_cell (.any v) _, closed_stat fun p => by rw [any_at]; rfl⟩
  · rename_i z es
    subst hb
    rw [hn rfl]
    refine ⟨fun _ => none, .inl ⟨rfl, .inr ⟨rfl, none, rfl⟩⟩, ⟨fun p => ?_, (fun p k _ h => by cases h), fun p k p' k' _ h => by cases h⟩⟩
    cases p with
    | nil => exact .inl ⟨rfl, rfl⟩
    | cons ij p => exact node_false (tr_leaf (I := I) (fun i hi => by cases hi) ij p)
  · rename_i z es
    subst hb
    rw [hn rfl]
    have hr : RepS I (.sl z []) (.slice none 0 0) := .nil z none
    exact ⟨fun _ => none, rs_cell hr _, closed_stat (rs_at hr)⟩
  · subst hb; exact hc
/-- one value: what it hands over (c), after a nil slice has become an empty one and so on (b) -/
theorem closeC_sem (m : Sep I ρ w mem) {x : AV} {v : Value} {K : AV → List (Nat × Path) → Prop} (h : closeC mem x K .mk) (r : Rep I ρ x v) :
    ∃ c s, K c s ∧ ((∃ fs, c = .agg fs) → ∃ fs, x = .agg fs) ∧ ∀ b, leC c b → ∃ π, CellOk I (π []) b v ∧ Closed I ρ w mem s b π := by
  have any : ∀ (c : AV) (s : List (Nat × Path)), (∃ π, CellOk I (π []) c v ∧ Closed I ρ w mem s c π) → (c = .v (.slice none 0 0) → v = .slice none 0 0) → ∀ b, leC c b → ∃ π, CellOk I (π []) b v ∧ Closed I ρ w mem s b π := fun c s hc hn b hb => le_closed hc hn hb
  unfold closeC at h
  split at h
  · rename_i t q z o n
    unfold closeTr at h
    split at h
    · rename_i z' es hT
      obtain ⟨⟨rfl, hon⟩, k⟩ := h
      refine ⟨_, _, k, (fun ⟨_, e⟩ => by cases e), any _ _ ?_ (fun e => by cases e)⟩
      obtain ⟨R, hR, hRq⟩ := nodeAt_some hT rfl
      have hrow := m.row t R q hR
      rw [hRq] at hrow
      have hlen : ((es.drop o).take n).length = n := by simp; omega
      -- the cells of the part
      have hget : ∀ i (hi : i < n), ((es.drop o).take n).getD i .any = es[o + i]'(by omega) := fun i hi => by
        rw [getD_lt (by omega)]; simp
      have hsub : ∀ (ij : Nat × Nat) p, ((AV.tr z ((es.drop o).take n)).at (ij :: p)).isNode = true → (AV.tr z ((es.drop o).take n)).at (ij :: p) = R.at (q ++ (o + ij.1, ij.2) :: p) := by
        intro ij p h
        have h : (AV.at ((((es.drop o).take n).getD ij.1 .any).cells.getD ij.2 .any) p).isNode = true := h
        by_cases h1 : ij.1 < n
        · rw [at_append, hRq]
          show AV.at ((((es.drop o).take n).getD ij.1 .any).cells.getD ij.2 .any) p = AV.at ((es.getD (o + ij.1) .any).cells.getD ij.2 .any) p
          rw [hget _ h1, getD_lt (show o + ij.1 < es.length by omega)]
        · have e0 : ((es.drop o).take n).getD ij.1 .any = .any := getD_ge (by omega)
          rw [e0] at h
          have e : (AV.any).cells.getD ij.2 .any = .any := by cases ij.2 <;> rfl
          rw [e, any_at] at h; cases h
      have hRn : (R.at q).isNode = true := by rw [hRq]; rfl
      let π : Path → Option Plc := fun p => match p with | [] => (ρ t q).map fun k => ⟨k.b, k.off + o * z, z, k.cap - o⟩ | ij :: p => ρ t (q ++ (o + ij.1, ij.2) :: p)
      let tr : Path → Path := fun p => match p with | [] => [] | ij :: p => (o + ij.1, ij.2) :: p
      have htr : ∀ p p', tr p = tr p' → p = p' := by
        intro p p' h
        cases p with
        | nil => cases p' with
          | nil => rfl
          | cons _ _ => cases h
        | cons a p => cases p' with
          | nil => cases h
          | cons b p' =>
            simp only [tr, List.cons.injEq, Prod.mk.injEq] at h
            obtain ⟨⟨h1, h2⟩, h3⟩ := h
            obtain ⟨a1, a2⟩ := a
            obtain ⟨b1, b2⟩ := b
            simp only at h1 h2
            rw [h2, h3, show a1 = b1 by omega]
      -- every node of it
      have hnode : ∀ p k, ((AV.tr z ((es.drop o).take n)).at p).isNode = true → π p = some k → (R.at (q ++ tr p)).isNode = true ∧ ∃ k0, ρ t (q ++ tr p) = some k0 ∧ k0.b = k.b := by
        intro p k h1 h2
        cases p with
        | nil =>
          simp only [π] at h2
          obtain ⟨k0, hk0, rfl⟩ := Option.map_eq_some_iff.1 h2
          exact ⟨by simp only [tr]; rw [List.append_nil]; exact hRn, k0, by simp only [tr]; rw [List.append_nil]; exact hk0, rfl⟩
        | cons ij p => exact ⟨hsub ij p h1 ▸ h1, k, h2, rfl⟩
      refine ⟨π, .inl ⟨rfl, ?_⟩, ⟨fun p => ?_, fun p k h1 h2 => ?_, fun p k p' k' h1 h2 h1' h2' he => ?_⟩⟩
      · rcases rep_ref r with ⟨k, h1, h2, h3, h4⟩ | ⟨h1, x, h2⟩
        · refine .inl ⟨⟨k.b, k.off + o * z, z, k.cap - o⟩, by simp [π, h1], rfl, by show _ ≤ k.cap - o; omega, by rw [hlen]; exact h4⟩
        · exact .inr ⟨List.eq_nil_of_length_eq_zero (by omega), x, h2⟩
      · cases p with
        | nil =>
          show RowOk I π w [] z ((es.drop o).take n)
          rcases hrow with ⟨h1, h2⟩ | ⟨k, Et, arr, h1, h2, h3, h4, h5, h6, h7⟩
          · exact .inl ⟨by simp [π, h1], by rw [h2]; simp⟩
          · have hmul : o * z + (k.cap - o) * z = k.cap * z := by rw [← Nat.add_mul]; congr 1; omega
            refine .inr ⟨⟨k.b, k.off + o * z, z, k.cap - o⟩, Et, arr, by simp [π, h1], rfl, by show _ ≤ k.cap - o; omega, by show k.cap - o ≤ _; omega, h5, by show k.off + o * z + (k.cap - o) * z ≤ _; omega, fun i hi => ?_⟩
            have hi' : i < n := by omega
            have e1 : ((es.drop o).take n)[i] = es[o + i]'(by omega) := by simp
            have h8 := h7 (o + i) (by omega)
            refine ⟨by rw [e1]; exact h8.1, fun j hj => ?_⟩
            have hj' : j < (es[o + i]'(by omega)).cells.length := by rw [← e1]; exact hj
            have e3 : (((es.drop o).take n)[i]).cells[j] = (es[o + i]'(by omega)).cells[j]'hj' := by simp only [e1]
            have e4 : k.off + o * z + i * z + j = k.off + (o + i) * z + j := by rw [Nat.add_mul]; omega
            rw [e3]
            show CellOk I (ρ t (q ++ [(o + i, j)])) _ (arr.getD (k.off + o * z + i * z + j) undef) ∧ (arr.getD (k.off + o * z + i * z + j) undef).oneCell' = true
            rw [e4]
            exact h8.2 j hj'
        | cons ij p =>
          cases hn : ((AV.tr z ((es.drop o).take n)).at (ij :: p)).isNode with
          | false => exact node_false hn
          | true =>
            rw [hsub ij p hn]
            exact node_shift (m.row t R (q ++ (o + ij.1, ij.2) :: p) hR) (fun r => by show ρ t (q ++ ((o + ij.1, ij.2) :: (p ++ r))) = _; simp)
      · obtain ⟨g1, k0, g2, g3⟩ := hnode p k h1 h2
        exact ⟨t, q, tr p, R, k0, by simp, hR, g1, g2, g3⟩
      · obtain ⟨g1, k0, g2, g3⟩ := hnode p k h1 h2
        obtain ⟨g1', k0', g2', g3'⟩ := hnode p' k' h1' h2'
        exact htr _ _ (List.append_cancel_left (m.inj t R _ k0 t R _ k0' hR g1 g2 hR g1' g2' (by rw [g3, g3', he])).2)
    · exact h.elim
  · rename_i t q i j
    obtain ⟨⟨rfl, rfl⟩, h⟩ := h
    unfold closePt at h
    split at h
    · rename_i z x hT
      refine ⟨_, _, h, (fun ⟨_, e⟩ => by cases e), any _ _ ?_ (fun e => by cases e)⟩
      obtain ⟨R, hR, hRq⟩ := nodeAt_some hT rfl
      refine ⟨fun p => ρ t (q ++ p), .inl ⟨rfl, ?_⟩, ⟨fun p => ?_, fun p k h1 h2 => ?_, fun p k p' k' h1 h2 h1' h2' he => ?_⟩⟩
      · have := node_hdr (J := I) (v := v) m hT.symm rfl r
        simpa using this
      · rw [← hRq, ← at_append]; exact node_shift (m.row t R (q ++ p) hR) (fun r => by rw [List.append_assoc])
      · exact ⟨t, q, p, R, k, by simp, hR, by rw [at_append, hRq]; exact h1, h2, rfl⟩
      · exact List.append_cancel_left (m.inj t R _ k t R _ k' hR (by rw [at_append, hRq]; exact h1) h2 hR (by rw [at_append, hRq]; exact h1') h2' he).2
    · exact h.elim
  · rename_i t q
    unfold closeMt at h
    split at h
    · rename_i kd f hT
      refine ⟨_, _, h, (fun ⟨_, e⟩ => by cases e), any _ _ ?_ (fun e => by cases e)⟩
      obtain ⟨R, hR, hRq⟩ := nodeAt_some hT rfl
      refine ⟨fun p => ρ t (q ++ p), .inl ⟨rfl, ?_⟩, ⟨fun p => ?_, fun p k h1 h2 => ?_, fun p k p' k' h1 h2 h1' h2' he => ?_⟩⟩
      · have := node_hdr (J := I) (v := v) m hT.symm rfl r
        simpa using this
      · rw [← hRq, ← at_append]; exact node_shift (m.row t R (q ++ p) hR) (fun r => by rw [List.append_assoc])
      · exact ⟨t, q, p, R, k, by simp, hR, by rw [at_append, hRq]; exact h1, h2, rfl⟩
      · exact List.append_cancel_left (m.inj t R _ k t R _ k' hR (by rw [at_append, hRq]; exact h1) h2 hR (by rw [at_append, hRq]; exact h1') h2' he).2
    · exact h.elim
  · refine ⟨_, _, h.2, (fun e => e), any _ _ ⟨fun _ => none, rs_cell (nb_stat r h.1) _, closed_stat (rs_at (nb_stat r h.1))⟩ (fun e => ?_)⟩
    rw [e] at r; exact rep_v r
end
end Go.AM
namespace Go.AM
open Go.RowKit (Below)

section
variable {P : Program} {M : FuncId → List Bool} {np N : Nat} {E : Entry} {st : St} {a : Act} {w w' : World} {I I' J : Gh} {ρ ρ' : Pl} {mem mem' : Nat → Option AV}

theorem top1_shift {π π' : Path → Option Plc} {q q' : Path} (h : ∀ r, π' (q' ++ r) = π (q ++ r)) {X : AV} {v : Value} (t : TopOk1 I π q X v) : TopOk1 I π' q' X v := by
  have h0 : π' q' = π q := by have := h []; simpa using this
  cases X <;> try (unfold TopOk1 at t ⊢; rw [h0]; exact t)
  obtain ⟨arr, h1, h2, h3⟩ := t
  exact ⟨arr, h1, h2, fun j hj hk => by rw [h]; exact h3 j hj hk⟩

/-- what one value is said to be, and its places -/
def Sem1 (J : Gh) (ρ : Pl) (w : World) (mem : Nat → Option AV) (s : List (Nat × Path)) (b : AV) (v : Value) : Prop := ∃ π, TopOk1 J π [] b v ∧ Closed J ρ w mem s b π
theorem sem1_cell {s : List (Nat × Path)} {b : AV} {v : Value} (hb : ∀ fs, b ≠ .agg fs) (h : ∃ π, CellOk J (π []) b v ∧ Closed J ρ w mem s b π) : Sem1 J ρ w mem s b v := by
  obtain ⟨π, h1, h2⟩ := h
  refine ⟨π, ?_, h2⟩
  cases b <;> first | exact h1 | exact absurd rfl (hb _)
theorem sem1_any (s : List (Nat × Path)) (v : Value) : Sem1 J ρ w mem s .any v := ⟨fun _ => none, rs_cell (.any v) _, closed_stat fun p => by rw [any_at]; rfl⟩

/-- the cells of a struct -/
theorem row_sem (m : Sep I ρ w mem) (Q : AV → List (Nat × Path) → AV → Value → Prop) (hQ : ∀ c s b v, Q c s b v → ∃ π, CellOk J (π []) b v ∧ Closed J ρ w mem s b π) :
    ∀ (bs : List AV) (vs : List Value) (ss : List (List (Nat × Path))) (cs : List AV), bs.length = vs.length → ss.length = vs.length → cs.length = vs.length → (∀ j (h1 : j < bs.length) (h2 : j < vs.length) (h3 : j < ss.length) (h4 : j < cs.length), Q (cs[j]) (ss[j]) (bs[j]) (vs[j])) → ss.flatten.Pairwise Aprt →
    ∃ Φ, (∀ j (h1 : j < bs.length) (h2 : j < vs.length), CellOk J (Φ j []) (bs[j]) (vs[j])) ∧ ClosedL J ρ w mem ss.flatten bs Φ
  | [], [], [], [], _, _, _, _, _ => ⟨fun _ _ => none, (fun j h => by cases h), closedL_nil⟩
  | b :: bs, v :: vs, s :: ss, c :: cs, h1, h2, h3, h, hap => by
    rw [List.flatten_cons, List.pairwise_append] at hap
    obtain ⟨_, hap2, hap3⟩ := hap
    obtain ⟨π, g1, g2⟩ := hQ c s b v (h 0 (by simp) (by simp) (by simp) (by simp))
    obtain ⟨Φ, g3, g4⟩ := row_sem m Q hQ bs vs ss cs (by simpa using h1) (by simpa using h2) (by simpa using h3) (fun j q1 q2 q3 q4 => by
      have := h (j + 1) (by simpa using q1) (by simpa using q2) (by simpa using q3) (by simpa using q4)
      simpa using this) hap2
    refine ⟨fun j => match j with | 0 => π | j + 1 => Φ j, fun j q1 q2 => ?_, ?_⟩
    · cases j with
      | zero => exact g1
      | succ j => exact g3 j (by simpa using q1) (by simpa using q2)
    · rw [List.flatten_cons]; exact closedL_cons m g2 g4 hap3
  | [], _ :: _, _, _, h, _, _, _, _ => by simp at h
  | _ :: _, [], _, _, h, _, _, _, _ => by simp at h
  | _, [], _ :: _, _, _, h, _, _, _ => by simp at h
  | _, _ :: _, [], _, _, h, _, _, _ => by simp at h
  | _, [], _, _ :: _, _, _, h, _, _ => by simp at h
  | _, _ :: _, _, [], _, _, h, _, _ => by simp at h

theorem leL_len : ∀ {l l' : List AV}, leL l l' → l.length = l'.length ∧ ∀ j (h1 : j < l.length) (h2 : j < l'.length), leC (l[j]) (l'[j])
  | [], [], _ => ⟨rfl, fun j h => by cases h⟩
  | a :: r, b :: s, h => by
    obtain ⟨h1, h2⟩ := leL_len h.2
    refine ⟨by simp [h1], fun j q1 q2 => ?_⟩
    cases j with
    | zero => exact h.1
    | succ j => exact h2 j (by simpa using q1) (by simpa using q2)
  | [], _ :: _, h => h.elim
  | _ :: _, [], h => h.elim
theorem leT_len : ∀ {l l' : List AV}, leT l l' → l.length = l'.length ∧ ∀ j (h1 : j < l.length) (h2 : j < l'.length), leA (l[j]) (l'[j])
  | [], [], _ => ⟨rfl, fun j h => by cases h⟩
  | a :: r, b :: s, h => by
    obtain ⟨h1, h2⟩ := leT_len h.2
    refine ⟨by simp [h1], fun j q1 q2 => ?_⟩
    cases j with
    | zero => exact h.1
    | succ j => exact h2 j (by simpa using q1) (by simpa using q2)
  | [], _ :: _, h => h.elim
  | _ :: _, [], h => h.elim
theorem leC_cases {c b : AV} (h : leC c b) : b = .any ∨ (c = .v (.slice none 0 0) ∧ ((∃ z, b = .tr z []) ∨ ∃ z, b = .sl z [])) ∨ c = b := by
  unfold leC at h
  split at h
  · exact .inl rfl
  · rename_i z es
    subst h
    exact .inr (.inl ⟨rfl, .inl ⟨z, rfl⟩⟩)
  · rename_i z es
    subst h
    exact .inr (.inl ⟨rfl, .inr ⟨z, rfl⟩⟩)
  · exact .inr (.inr h)
theorem leA_cases {c b : AV} (h : leA c b) : (∃ l l', c = .agg l ∧ b = .agg l' ∧ leL l l') ∨ b = .any ∨ ((∀ fs, b ≠ .agg fs) ∧ (∀ fs, c ≠ .agg fs) ∧ leC c b) := by
  by_cases hc : ∃ l, c = .agg l
  · obtain ⟨l, rfl⟩ := hc
    by_cases hb : ∃ l', b = .agg l'
    · obtain ⟨l', rfl⟩ := hb
      exact .inl ⟨l, l', rfl, rfl, h⟩
    · have h' : leC (.agg l) b := by cases b <;> first | exact h | exact absurd ⟨_, rfl⟩ hb
      rcases leC_cases h' with e | ⟨e, _⟩ | e
      · exact .inr (.inl e)
      · cases e
      · exact absurd ⟨l, e.symm⟩ hb
  · have h' : leC c b := by cases c <;> first | exact h | exact absurd ⟨_, rfl⟩ hc
    by_cases hb : ∃ l', b = .agg l'
    · obtain ⟨l', rfl⟩ := hb
      rcases leC_cases h' with e | ⟨_, ⟨z, e⟩ | ⟨z, e⟩⟩ | e
      · cases e
      · cases e
      · cases e
      · exact absurd ⟨l', e⟩ hc
    · exact .inr (.inr ⟨fun fs e => hb ⟨fs, e⟩, fun fs e => hc ⟨fs, e⟩, h'⟩)

theorem closeCs_sem (m : Sep I ρ w mem) : ∀ (fs : List AV) (vs : List Value) {K : List AV → List (Nat × Path) → Prop}, closeCs mem fs K → fs.length = vs.length → (∀ j (h1 : j < fs.length) (h2 : j < vs.length), Rep I ρ (fs[j]) (vs[j])) →
    ∃ (l : List AV) (ss : List (List (Nat × Path))), K l ss.flatten ∧ l.length = vs.length ∧ ss.length = vs.length ∧ ∀ j (h1 : j < l.length) (h2 : j < vs.length) (h3 : j < ss.length), ∀ b, leC (l[j]) b → ∃ π, CellOk I (π []) b (vs[j]) ∧ Closed I ρ w mem (ss[j]) b π
  | [], [], K, h, _, _ => ⟨[], [], h, rfl, rfl, fun j h => by cases h⟩
  | x :: r, v :: vs, K, h, hl, hr => by
    obtain ⟨c, s, h, _, hc⟩ := closeC_sem m (x := x) (v := v) h (hr 0 (by simp) (by simp))
    obtain ⟨l, ss, hK, g1, g2, g3⟩ := closeCs_sem m r vs h (by simpa using hl) (fun j h1 h2 => by have := hr (j + 1) (by simpa using h1) (by simpa using h2); simpa using this)
    refine ⟨c :: l, s :: ss, by simpa using hK, by simp [g1], by simp [g2], fun j h1 h2 h3 => ?_⟩
    cases j with
    | zero => exact hc
    | succ j => exact g3 j (by simpa using h1) (by simpa using h2) (by simpa using h3)
  | [], _ :: _, _, _, h, _ => by simp at h
  | _ :: _, [], _, _, h, _ => by simp at h

theorem agg_sem (m : Sep I ρ w mem) {bs : List AV} {vs : List Value} {ss : List (List (Nat × Path))} {l : List AV} (h1 : leL l bs) (hl : l.length = vs.length) (hs : ss.length = vs.length)
    (h : ∀ j (h1 : j < l.length) (h2 : j < vs.length) (h3 : j < ss.length), ∀ b, leC (l[j]) b → ∃ π, CellOk J (π []) b (vs[j]) ∧ Closed J ρ w mem (ss[j]) b π) (hap : ss.flatten.Pairwise Aprt) : Sem1 J ρ w mem ss.flatten (.agg bs) (.agg vs.toArray) := by
  obtain ⟨e1, e2⟩ := leL_len h1
  obtain ⟨Φ, g1, g2⟩ := row_sem (J := J) m (fun c s b v => ∃ π, CellOk J (π []) b v ∧ Closed J ρ w mem s b π) (fun c s b v h => h) bs vs ss bs (by omega) hs (by omega) (fun j q1 q2 q3 q4 => h j (by omega) q2 q3 _ (e2 j (by omega) q1)) hap
  refine ⟨rowP Φ, ⟨vs.toArray, rfl, by simp; omega, fun j hj hk => ?_⟩, closed_agg g2⟩
  have := g1 j hj (by simpa using hk)
  simpa [rowP] using this

/-- one result -/
theorem closeA_sem (m : Sep I ρ w mem) {x : AV} {v : Value} {K : AV → List (Nat × Path) → Prop} (h : closeA mem x K) (r : Rep I ρ x v) : ∃ c s, K c s ∧ ∀ b, leA c b → s.Pairwise Aprt → Sem1 I ρ w mem s b v := by
  by_cases hx : ∃ fs, x = .agg fs
  · obtain ⟨fs, rfl⟩ := hx
    obtain ⟨arr, rfl, h1, h2⟩ := rep_agg r
    obtain ⟨l, ss, hK, g1, g2, g3⟩ := closeCs_sem m fs arr.toList h (by simpa using h1.symm) (fun j q1 q2 => by simpa using h2 j q1 (by simpa using q2))
    refine ⟨.agg l, ss.flatten, hK, fun b hb hap => ?_⟩
    rcases leA_cases hb with ⟨l1, l', e1, rfl, hle⟩ | rfl | ⟨_, hc, _⟩
    · cases e1
      have := agg_sem (J := I) m hle g1 g2 g3 hap
      simpa using this
    · exact sem1_any _ _
    · exact absurd rfl (hc l)
  · have e : closeA mem x K = closeC mem x K .mk := by cases x <;> first | rfl | exact absurd ⟨_, rfl⟩ hx
    rw [e] at h
    obtain ⟨c, s, hK, hagg, hc⟩ := closeC_sem m h r
    refine ⟨c, s, hK, fun b hb hap => ?_⟩
    rcases leA_cases hb with ⟨l1, l', rfl, rfl, hle⟩ | rfl | ⟨hb2, _, hle⟩
    · exact (hx (hagg ⟨_, rfl⟩)).elim
    · exact sem1_any _ _
    · exact sem1_cell hb2 (hc b hle)
/-- one result, by content alone -/
theorem stat_sem (m : Sep I ρ w mem) {c : AV} {v : Value} (r : RepS J c v) {b : AV} (hb : leA c b) : Sem1 J ρ w mem [] b v := by
  have one : ∀ {c b : AV} {v : Value}, RepS J c v → leC c b → ∃ π, CellOk J (π []) b v ∧ Closed J ρ w mem [] b π := fun {c b v} r hle =>
    le_closed ⟨fun _ => none, rs_cell r _, closed_stat (rs_at r)⟩ (fun e => by subst e; cases r; rfl) hle
  rcases leA_cases hb with ⟨l, l', rfl, rfl, hle⟩ | rfl | ⟨hb2, _, hle⟩
  · cases r with
    | agg _ arr hn hr =>
      have := agg_sem (J := J) (vs := arr.toList) (ss := List.replicate arr.size []) m hle (by simpa using hn.symm) (by simp) (fun j h1 h2 h3 b hb => by
        have := one (hr j h1 (by simpa using h2)) hb
        simpa using this) (by simp [List.flatten_replicate_nil])
      simpa [List.flatten_replicate_nil] using this
  · exact sem1_any _ _
  · exact sem1_cell hb2 (one r hle)

theorem closeL_sem (m : Sep I ρ w mem) : ∀ (fs : List AV) (vs : List Value) {K : List AV → List (Nat × Path) → Prop}, closeL mem fs K → fs.length = vs.length → (∀ j (h1 : j < fs.length) (h2 : j < vs.length), Rep I ρ (fs[j]) (vs[j])) →
    ∃ (l : List AV) (ss : List (List (Nat × Path))), K l ss.flatten ∧ l.length = vs.length ∧ ss.length = vs.length ∧ ∀ j (h1 : j < l.length) (h2 : j < vs.length) (h3 : j < ss.length), ∀ b, leA (l[j]) b → (ss[j]).Pairwise Aprt → Sem1 I ρ w mem (ss[j]) b (vs[j])
  | [], [], K, h, _, _ => ⟨[], [], h, rfl, rfl, fun j h => by cases h⟩
  | x :: r, v :: vs, K, h, hl, hr => by
    obtain ⟨c, s, h, hc⟩ := closeA_sem m (x := x) (v := v) h (hr 0 (by simp) (by simp))
    obtain ⟨l, ss, hK, g1, g2, g3⟩ := closeL_sem m r vs h (by simpa using hl) (fun j h1 h2 => by have := hr (j + 1) (by simpa using h1) (by simpa using h2); simpa using this)
    refine ⟨c :: l, s :: ss, by simpa using hK, by simp [g1], by simp [g2], fun j h1 h2 h3 => ?_⟩
    cases j with
    | zero => exact hc
    | succ j => exact g3 j (by simpa using h1) (by simpa using h2) (by simpa using h3)
  | [], _ :: _, _, _, h, _ => by simp at h
  | _ :: _, [], _, _, h, _ => by simp at h

theorem tup_sem (m : Sep I ρ w mem) : ∀ (bs : List AV) (vs : List Value) (ss : List (List (Nat × Path))), bs.length = vs.length → ss.length = vs.length → (∀ j (h1 : j < bs.length) (h2 : j < vs.length) (h3 : j < ss.length), Sem1 J ρ w mem (ss[j]) (bs[j]) (vs[j])) → ss.flatten.Pairwise Aprt →
    ∃ Φ, (∀ j (h1 : j < bs.length) (h2 : j < vs.length), TopOk1 J (Φ j) [] (bs[j]) (vs[j])) ∧ ClosedL J ρ w mem ss.flatten bs Φ
  | [], [], [], _, _, _, _ => ⟨fun _ _ => none, (fun j h => by cases h), closedL_nil⟩
  | b :: bs, v :: vs, s :: ss, h1, h2, h, hap => by
    rw [List.flatten_cons, List.pairwise_append] at hap
    obtain ⟨_, hap2, hap3⟩ := hap
    obtain ⟨π, g1, g2⟩ := h 0 (by simp) (by simp) (by simp)
    obtain ⟨Φ, g3, g4⟩ := tup_sem m bs vs ss (by simpa using h1) (by simpa using h2) (fun j q1 q2 q3 => by
      have := h (j + 1) (by simpa using q1) (by simpa using q2) (by simpa using q3)
      simpa using this) hap2
    refine ⟨fun j => match j with | 0 => π | j + 1 => Φ j, fun j q1 q2 => ?_, ?_⟩
    · cases j with
      | zero => exact g1
      | succ j => exact g3 j (by simpa using q1) (by simpa using q2)
    · rw [List.flatten_cons]; exact closedL_cons m g2 g4 hap3
  | [], _ :: _, _, h, _, _, _ => by simp at h
  | _ :: _, [], _, h, _, _, _ => by simp at h
  | _, [], _ :: _, _, h, _, _ => by simp at h
  | _, _ :: _, [], _, h, _, _ => by simp at h

/-- all results, as the function's one -/
theorem all_sem (m : Sep I ρ w mem) {l : List AV} {vs : List Value} {ss : List (List (Nat × Path))} {r : AV} (hl : l.length = vs.length) (hs : ss.length = vs.length) (h : ∀ j (h1 : j < l.length) (h2 : j < vs.length) (h3 : j < ss.length), ∀ b, leA (l[j]) b → (ss[j]).Pairwise Aprt → Sem1 J ρ w mem (ss[j]) b (vs[j]))
    (hr : leR l r) (hap : ss.flatten.Pairwise Aprt) : ∃ π, TopOk J π [] r (if h : vs.toArray.size = 1 then vs.toArray[0] else .tuple vs.toArray) ∧ Closed J ρ w mem ss.flatten r π := by
  by_cases h1 : ∃ c, l = [c]
  · obtain ⟨c, rfl⟩ := h1
    match vs, ss, hl, hs with
    | [v], [s], _, _ =>
      have hr : leA c r := hr
      obtain ⟨π, g1, g2⟩ := h 0 (by simp) (by simp) (by simp) r hr (by simpa using hap)
      refine ⟨π, ?_, by simpa using g2⟩
      have g1 : TopOk1 J π [] r v := g1
      by_cases ht : ∃ fs, r = .tup fs
      · obtain ⟨fs, rfl⟩ := ht
        have g1 : CellOk J (π []) (.tup fs) v := g1
        rcases g1 with ⟨q, _⟩ | ⟨_, q⟩
        · cases q
        · exact rs_top q _ _
      · have : TopOk J π [] r v = TopOk1 J π [] r v := by cases r <;> first | rfl | exact absurd ⟨_, rfl⟩ ht
        show TopOk J π [] r v
        rw [this]; exact g1
  · have hn1 : l.length ≠ 1 := fun e => h1 (by
      match l, e with
      | [c], _ => exact ⟨c, rfl⟩)
    have hR : ∃ bs, r = .tup bs ∧ leT l bs := by
      unfold leR at hr
      split at hr
      · exact absurd ⟨_, rfl⟩ h1
      · exact ⟨_, rfl, hr⟩
      · exact hr.elim
    obtain ⟨bs, rfl, hle⟩ := hR
    obtain ⟨e1, e2⟩ := leT_len hle
    have hpair : ∀ j (h3 : j < ss.length), (ss[j]).Pairwise Aprt := fun j h3 => (List.pairwise_flatten.1 hap).1 _ (List.getElem_mem h3)
    obtain ⟨Φ, g1, g2⟩ := tup_sem m bs vs ss (by omega) hs (fun j q1 q2 q3 => h j (by omega) q2 q3 _ (e2 j (by omega) q1) (hpair j q3)) hap
    refine ⟨rowP Φ, ?_, closed_tup g2⟩
    rw [dif_neg (by simp; omega)]
    refine ⟨vs.toArray, rfl, by simp; omega, fun j hj hk => ?_⟩
    have := g1 j hj (by simpa using hk)
    refine top1_shift (q := []) (fun r => ?_) (by simpa using this)
    rfl

theorem apL_spec1 (t : Nat) (q : Path) : ∀ (s : List (Nat × Path)), apart1 t q s = true → ∀ x ∈ s, Aprt (t, q) x
  | (t', q') :: s, h, x, hx => by
    simp only [apart1, Bool.and_eq_true, Bool.or_eq_true, Bool.not_eq_true', decide_eq_false_iff_not] at h
    rcases List.mem_cons.1 hx with rfl | hx
    · rcases h.1 with h | h
      · exact .inl (Ne.symm h)
      · exact .inr (divB_spec _ _ h)
    · exact apL_spec1 t q s h.2 x hx
theorem apL_spec : ∀ (s : List (Nat × Path)), apartL s = true → s.Pairwise Aprt
  | [], _ => .nil
  | (t, q) :: s, h => by
    simp only [apartL, Bool.and_eq_true] at h
    exact List.pairwise_cons.2 ⟨fun x hx => apL_spec1 t q s h.1 x hx, apL_spec s h.2⟩
theorem outRoots_mem : ∀ (outs : List (Option AV)) (i j : Nat) (T : AV), outs[j]? = some (some T) → (i + j, ([] : Path)) ∈ outRoots i outs
  | some T0 :: r, i, 0, T, h => by simp [outRoots]
  | none :: r, i, 0, T, h => by simp at h
  | some T0 :: r, i, j + 1, T, h => by
    have := outRoots_mem r (i + 1) j T (by simpa using h)
    simp only [outRoots, List.mem_cons]
    right
    have e : i + (j + 1) = i + 1 + j := by omega
    rw [e]; exact this
  | none :: r, i, j + 1, T, h => by
    have := outRoots_mem r (i + 1) j T (by simpa using h)
    simp only [outRoots]
    have e : i + (j + 1) = i + 1 + j := by omega
    rw [e]; exact this
  | [], i, j, T, h => by simp at h
theorem outsOk_get : ∀ (outs : List (Option AV)) (i j : Nat) (T : AV), outsOk mem i outs → outs[j]? = some (some T) → mem (i + j) = some T
  | some T0 :: r, i, 0, T, h, hT => by simp at hT; subst hT; exact h.1
  | none :: r, i, 0, T, h, hT => by simp at hT
  | some T0 :: r, i, j + 1, T, h, hT => by
    have := outsOk_get r (i + 1) j T h.2 (by simpa using hT)
    have e : i + (j + 1) = i + 1 + j := by omega
    rw [e]; exact this
  | none :: r, i, j + 1, T, h, hT => by
    have h : outsOk mem (i + 1) r := h
    have := outsOk_get r (i + 1) j T h (by simpa using hT)
    have e : i + (j + 1) = i + 1 + j := by omega
    rw [e]; exact this
  | [], i, j, T, h, hT => by simp at hT
theorem sigsOk_get : ∀ (args : List AV) (outs : List (Option AV)) (j : Nat) (T : AV), sigsOk args outs → outs[j]? = some (some T) → T.sig = (args.getD j .any).sig
  | a :: as, some T0 :: r, 0, T, h, hT => by simp at hT; subst hT; exact h.1
  | a :: as, none :: r, 0, T, h, hT => by simp at hT
  | a :: as, some T0 :: r, j + 1, T, h, hT => sigsOk_get as r j T h.2 (by simpa using hT)
  | a :: as, none :: r, j + 1, T, h, hT => by
    have h : sigsOk as r := h
    exact sigsOk_get as r j T h (by simpa using hT)
  | [], x :: _, _, _, h, _ => by cases x <;> exact h.elim
  | _, [], j, T, h, hT => by simp at hT
theorem sigsOk_len : ∀ (args : List AV) (outs : List (Option AV)), sigsOk args outs → outs.length ≤ args.length
  | _, [], _ => Nat.zero_le _
  | a :: as, some T0 :: r, h => by simp; exact sigsOk_len as r h.2
  | a :: as, none :: r, h => by simp; exact sigsOk_len as r h
  | [], x :: _, h => by cases x <;> exact h.elim

def readRes (tmps : Array Value) : ResultVar → Sem Value
  | .tmp t => pure (tmps.getD t undef)
  | .cell a t => do loadVar t (← asAddr (tmps.getD a undef))

theorem resVs_sound (c : Conc N E st a w I ρ) : ∀ (rs : List ResultVar) (K : List AV → Prop), resVs P st rs K →
    ∃ (l : List AV) (vals : List Value), (rs.mapM (readRes a.tmps)).run P w = .ok vals w ∧ K l ∧ l.length = vals.length ∧ ∀ j (hj : j < l.length) (hk : j < vals.length), Rep I ρ (l[j]) (vals[j])
  | [], K, h => ⟨[], [], by simp, h, rfl, fun j hj => by cases hj⟩
  | rv :: r, K, h => by
    have hone : ∃ v x, (readRes a.tmps rv).run P w = .ok x w ∧ resVs P st r (fun l => K (v :: l)) ∧ Rep I ρ v x := by
      cases rv with
      | tmp t => exact ⟨_, _, by simp [readRes], h, c.fr t⟩
      | cell ad t =>
        obtain ⟨v, x, h1, h2, h3⟩ := loadP_sound (P := P) c.held c.mem h (c.fr ad)
        refine ⟨v, x, ?_, h2, h3⟩
        have hform : ∃ p, a.tmps.getD ad undef = .pointer (some p) := by
          have h' : loadP P st.mem t (st.fr ad) (fun x => valP x (fun x => resVs P st r fun l => K (x :: l)) .mk) .mk := h
          have hr := c.fr ad
          unfold loadP at h'
          split at h'
          · rename_i s p i j hx; rw [hx] at hr; obtain ⟨k, _, h⟩ := rep_loc hr; exact ⟨_, h⟩
          · rename_i cs hx
            rw [hx] at hr
            have hr := rep_ep hr
            generalize a.tmps.getD ad undef = u at hr
            cases hr with | ep _ b o vals _ _ => exact ⟨_, rfl⟩
          · exact h'.elim
        obtain ⟨p, hp⟩ := hform
        rw [hp] at h1
        simp only [readRes, hp, asAddr, Sem.run_bind, Sem.run_pure, Result.andThen_ok]
        simpa [Instr.loadAt, Instr.sureAddr] using h1
    obtain ⟨v, x, h1, h2, h3⟩ := hone
    obtain ⟨l, vals, q1, q2, q3, q4⟩ := resVs_sound c r _ h2
    refine ⟨v :: l, x :: vals, by simp [List.mapM_cons, h1, q1], q2, by simp [q3], fun j hj hk => ?_⟩
    cases j with
    | zero => exact h3
    | succ j => exact q4 j (by simpa using hj) (by simpa using hk)

theorem conc_init {args : List AV} {vals : Array Value} {π : Pl} (hN : vals.size ≤ N) (hh : Held I w) (hn : vals.size = args.length) (hs : Sep I π w (fun i => args[i]?)) (hr : ∀ j (hj : j < args.length) (hk : j < vals.size), TopOk I (π j) [] (args[j]) (vals[j])) :
    Conc N ⟨w, I, args, π⟩ (initSt args) { tmps := vals ++ Array.replicate (N - vals.size) undef, defers := [] } w I π := by
  refine ⟨hh, BelowX.refl _ _ _, fun _ _ _ => rfl, by simp; omega, rfl, fun i => ?_, hs, fun b hb => .inr hb, fun _ _ _ _ _ _ _ => rfl⟩
  show Rep I _ ((args.getD i .un).atoms i []) _
  by_cases hi : i < args.length
  · have hk : i < vals.size := by omega
    have e1 : args.getD i .un = args[i] := by simp [List.getD, hi]
    have e2 : (vals ++ Array.replicate (N - vals.size) undef).getD i undef = vals[i] := by
      rw [Array.getD_eq_getD_getElem?, Array.getElem?_append_left hk, Array.getElem?_eq_getElem hk]; rfl
    rw [e1, e2]; exact top_rep (hr i hi hk)
  · have e1 : args.getD i .un = .un := by simp [List.getD, hi]
    have e2 : (vals ++ Array.replicate (N - vals.size) undef).getD i undef = undef := by
      rw [Array.getD_eq_getD_getElem?, Array.getElem?_append_right (by omega), Array.getElem?_replicate]
      split <;> rfl
    rw [e1, e2]; exact .stat (.v _)

/-- A FUNCTION's CONTRACT OUT OF ITS BODY; the regions X are gone through order by order -/
theorem spec_of_awp_any {X : List Nat} {fz : Bool} {f : FuncId} {fn : Func} {c : Code} {rs : List ResultVar} {args : List AV} {outs : List (Option AV)} {r : AV} (hm : P.follows .mixedOrders = true) (hf : P.funcs[f]? = some fn) (hb : fn.body = some c) (hrs : fn.results = rs.toArray) (hname : fn.name ≠ "runtime.NumGoroutine") (hN : Nat.ble args.length fn.ntmps = true) (hnp : args.length ≤ np) (hok : okX np fn.ntmps X c = true)
    (hfz : fz = false ∨ (outs = [] ∧ (args.all fun a => !a.nodeB) = true)) (hsig : sigsOk args outs)
    (h : AWP P M (mark X c) (retP P fz args outs rs r) (initSt args)) (h6 : Nat.ble np 6 = true := by decide) : SpecX P f args outs r := by
  have h6' : args.length ≤ 6 := Nat.le_trans hnp (Nat.le_of_ble_eq_true h6)
  refine ⟨⟨fn, c, hf, hb, hname⟩, sigsOk_len args outs hsig, fun j T hT => sigsOk_get args outs j T hsig hT, fun I π w vals hh hn hs hr => ?_⟩
  refine calls_of_wp hf hb ?_
  have hN' := Nat.le_of_ble_eq_true hN
  have hc := conc_init (N := fn.ntmps) (by omega) hh hn hs hr
  refine Code.wp_mono ?_ (AWP_sound (np := np) (N := fn.ntmps) (E := ⟨w, I, args, π⟩) hm hnp h6' X c _ _ _ w hok h ⟨_, _, hc⟩)
  rintro e a' w' ⟨st', ⟨he, hres⟩, I', ρ, hcc⟩
  have hrl : fn.results.toList = rs := by rw [hrs]
  rw [← hrl] at hres
  obtain ⟨l, rvals, q1, q2, q3, q4⟩ := resVs_sound hcc _ _ hres
  have hrun : (results fn a'.tmps).run P w' = .ok (if h : rvals.toArray.size = 1 then rvals.toArray[0] else .tuple rvals.toArray) w' := by
    have e0 : results fn a'.tmps = (do let vs ← fn.results.mapM (readRes a'.tmps); pure (if h : vs.size = 1 then vs[0] else .tuple vs)) := by
      unfold results
      congr 1
    rw [e0, Sem.run_bind, Array.mapM_eq_mapM_toList, Sem.run_map, q1]
    rfl
  -- what is left
  have hfin : ∃ I'' π', Held I'' w' ∧ Sep I'' π' w' (outMem args.length outs r) ∧ TopOk I'' (π' args.length) [] r (if h : rvals.toArray.size = 1 then rvals.toArray[0] else .tuple rvals.toArray) ∧
      (∀ j T, outs[j]? = some (some T) → ∀ q, TopPos T q → π' j q = π j q) ∧ (∀ b o, b < w.heap.size → I'' b o = I b o) ∧ (∀ b, Owns π' (outMem args.length outs r) b → Owns π (fun i => args[i]?) b ∨ w.heap.size ≤ b) := by
    have hoJ : ∀ {i T}, outMem args.length outs r i = some T → (i = args.length ∧ T = r) ∨ (i ≠ args.length ∧ outs[i]? = some (some T)) := by
      intro i T h
      unfold outMem at h
      split at h
      · rename_i e; cases h; exact .inl ⟨e, rfl⟩
      · rename_i e
        refine .inr ⟨e, ?_⟩
        cases ho : outs[i]? with
        | none => rw [ho] at h; cases h
        | some o => rw [ho] at h; simp at h; rw [h]
    -- the memory at the end
    have fin : ∀ (J : Gh) (S : List (Nat × Path)) (πr : Path → Option Plc), Held J w' → Closed J ρ w' st'.mem S r πr → TopOk J πr [] r (if h : rvals.toArray.size = 1 then rvals.toArray[0] else .tuple rvals.toArray) → (∀ b o, b < w.heap.size → J b o = I b o) →
        (outs = [] ∨ J = I') → (∀ p k, (r.at p).isNode = true → πr p = some k → ∀ o, J k.b o = none) → outsOk st'.mem 0 outs → (∀ j T, outs[j]? = some (some T) → ∀ x ∈ S, Aprt (j, []) x) →
        ∃ I'' π', Held I'' w' ∧ Sep I'' π' w' (outMem args.length outs r) ∧ TopOk I'' (π' args.length) [] r (if h : rvals.toArray.size = 1 then rvals.toArray[0] else .tuple rvals.toArray) ∧
          (∀ j T, outs[j]? = some (some T) → ∀ q, TopPos T q → π' j q = π j q) ∧ (∀ b o, b < w.heap.size → I'' b o = I b o) ∧ (∀ b, Owns π' (outMem args.length outs r) b → Owns π (fun i => args[i]?) b ∨ w.heap.size ≤ b) := by
      intro J S πr hJ hcl htop hkeep hJI hfreeR houts hap
      let π' : Pl := fun i => if i = args.length then πr else ρ i
      have hπn : π' args.length = πr := by simp [π']
      have hπi : ∀ i, i ≠ args.length → π' i = ρ i := fun i h => by simp [π', h]
      have hmem : ∀ (i : Nat) (T : AV), outs[i]? = some (some T) → st'.mem i = some T := fun i T h => by
        have := outsOk_get outs 0 i T houts h
        rw [Nat.zero_add] at this; exact this
      have hJeq : ∀ (i : Nat) (T : AV), outs[i]? = some (some T) → J = I' := fun i T h => by
        rcases hJI with q | q
        · exact absurd h (by simp [q])
        · exact q
      have hsl := sigsOk_len args outs hsig
      refine ⟨J, π', hJ, ⟨fun i T p h => ?_, fun i T p k h h1 h2 o => ?_, fun i T p k i2 T2 p2 k2 h h1 h2 h' h1' h2' heq => ?_⟩, by rw [hπn]; exact htop, fun j T hT q hq => ?_, hkeep, ?_⟩
      · rcases hoJ h with ⟨rfl, rfl⟩ | ⟨e, h⟩
        · rw [hπn]; exact hcl.row p
        · rw [hπi i e, hJeq i T h]; exact hcc.mem.row i T p (hmem i T h)
      · rcases hoJ h with ⟨rfl, rfl⟩ | ⟨e, h⟩
        · rw [hπn] at h2; exact hfreeR p k h1 h2 o
        · rw [hπi i e] at h2; rw [hJeq i T h]; exact hcc.mem.free i T p k (hmem i T h) h1 h2 o
      · rcases hoJ h with ⟨rfl, rfl⟩ | ⟨e, ho⟩
        · rw [hπn] at h2
          rcases hoJ h' with ⟨rfl, rfl⟩ | ⟨e', h'⟩
          · rw [hπn] at h2'; exact ⟨rfl, hcl.inj p k p2 k2 h1 h2 h1' h2' heq⟩
          · exfalso
            rw [hπi i2 e'] at h2'
            obtain ⟨t, q, p', R, k0, g1, g2, g3, g4, g5⟩ := hcl.src p k h1 h2
            obtain ⟨x1, _⟩ := hcc.mem.inj t R _ k0 i2 T2 p2 k2 g2 g3 g4 (hmem i2 T2 h') h1' h2' (by rw [g5, heq])
            rcases hap i2 T2 h' _ g1 with q | q
            · exact q x1
            · exact q.1 List.nil_prefix
        · rw [hπi i e] at h2
          rcases hoJ h' with ⟨rfl, rfl⟩ | ⟨e', h'⟩
          · exfalso
            rw [hπn] at h2'
            obtain ⟨t, q, p', R, k0, g1, g2, g3, g4, g5⟩ := hcl.src p2 k2 h1' h2'
            obtain ⟨x1, _⟩ := hcc.mem.inj t R _ k0 i T p k g2 g3 g4 (hmem i T ho) h1 h2 (by rw [g5, heq])
            rcases hap i T ho _ g1 with q | q
            · exact q x1
            · exact q.1 List.nil_prefix
          · rw [hπi i2 e'] at h2'
            exact hcc.mem.inj i T p k i2 T2 p2 k2 (hmem i T ho) h1 h2 (hmem i2 T2 h') h1' h2' heq
      · have hj : j < args.length := by have := (List.getElem?_eq_some_iff.1 hT).1; omega
        rw [hπi j (by omega)]
        exact hcc.fix j _ T q (List.getElem?_eq_getElem hj) (hmem j T hT) hq
      · rintro b ⟨i, T, p, k, h, h1, h2, rfl⟩
        have : w.heap.size ≤ k.b ∨ Owns π (fun i => args[i]?) k.b := by
          rcases hoJ h with ⟨rfl, rfl⟩ | ⟨e, h⟩
          · rw [hπn] at h2
            obtain ⟨t, q, p', R, k0, g1, g2, g3, g4, g5⟩ := hcl.src p k h1 h2
            have := hcc.lo k0.b ⟨t, R, _, k0, g2, g3, g4, rfl⟩
            rw [g5] at this; exact this
          · rw [hπi i e] at h2
            exact hcc.lo k.b ⟨i, T, p, k, hmem i T h, h1, h2, rfl⟩
        exact this.symm
    unfold retK at q2
    split at q2
    · -- by content alone
      obtain ⟨rfl, hna⟩ := hfz.resolve_left (by intro e; cases e)
      have q2 : leR (AV.views st'.mem l) r := q2
      have hvl := views_len st'.mem l
      obtain ⟨πr, g1, g2⟩ := all_sem (J := lend I' ρ st'.mem w') (ss := List.replicate rvals.length []) hcc.mem (l := AV.views st'.mem l) (vs := rvals) (by omega) (by simp) (fun j h1 h2 h3 b hb _ => by
        have hj : j < l.length := by omega
        have := view_sound hcc.mem (q4 j hj h2)
        rw [views_get _ _ _ h1 hj] at hb
        have := stat_sem hcc.mem this hb
        simpa using this) q2 (by simp [List.flatten_replicate_nil])
      rw [List.flatten_replicate_nil] at g2
      have hnolent : ∀ b, ¬ Owns π (fun i => args[i]?) b := by
        rintro b ⟨i, T, p, k, h1, h2, _⟩
        obtain ⟨hlt, rfl⟩ := List.getElem?_eq_some_iff.1 h1
        have := List.all_eq_true.1 hna _ (List.getElem_mem hlt)
        simp only [Bool.not_eq_true'] at this
        have := top_stat (hr i hlt (by omega)) this
        rw [rs_at this p] at h2; cases h2
      refine fin _ [] πr (lend_held hcc.mem hcc.held) g2 g1 (fun b o hb => ?_) (.inl rfl) (fun p k h1 h2 o => ?_) trivial (fun j T hT => by simp at hT)
      · rw [lend_not]
        · exact hcc.keeps b o hb
        · intro hb2
          rcases hcc.lo b hb2 with q | q
          · have q : w.heap.size ≤ b := q; omega
          · exact hnolent b q
      · obtain ⟨t, q, p', R, k0, g, _⟩ := g2.src p k h1 h2
        cases g
    · -- with its memory
      obtain ⟨l', ss, ⟨hap, hle, houts⟩, g1, g2, g3⟩ := closeL_sem hcc.mem l rvals q2 q3 q4
      have hap := List.pairwise_append.1 (apL_spec _ hap)
      obtain ⟨πr, p1, p2⟩ := all_sem (J := I') hcc.mem g1 g2 g3 hle hap.2.1
      refine fin I' ss.flatten πr hcc.held p2 p1 hcc.keeps (.inr rfl) (fun p k h1 h2 o => ?_) houts (fun j T hT x hx => ?_)
      · obtain ⟨t, q, p', R, k0, _, x2, x3, x4, x5⟩ := p2.src p k h1 h2
        rw [← x5]; exact hcc.mem.free t R _ k0 x2 x3 x4 o
      · have := outRoots_mem outs 0 j T hT
        rw [Nat.zero_add] at this
        exact hap.2.2 _ this x hx
  obtain ⟨I'', π', f1, f2, f3, f4, f5, f6⟩ := hfin
  have hbel : BelowX (Owns π (fun i => args[i]?)) w.heap.size w w' := hcc.below
  have hend : bodyPost P fn (fun e w' => ∃ I' π' x, e = .returned x ∧ Held I' w' ∧ Sep I' π' w' (outMem args.length outs r) ∧ TopOk I' (π' args.length) [] r x ∧
      (∀ j T, outs[j]? = some (some T) → ∀ q, TopPos T q → π' j q = π j q) ∧
      BelowX (Owns π (fun i => args[i]?)) w.heap.size w w' ∧ (∀ b o, b < w.heap.size → I' b o = I b o) ∧ (∀ b, Owns π' (outMem args.length outs r) b → Owns π (fun i => args[i]?) b ∨ w.heap.size ≤ b)) e a' w' := by
    have hd := hcc.defers
    cases e with
    | normal => exact ⟨hd, _, hrun, I'', π', _, rfl, f1, f2, f3, f4, hbel, f5, f6⟩
    | ret => exact ⟨hd, _, hrun, I'', π', _, rfl, f1, f2, f3, f4, hbel, f5, f6⟩
    | exit id => exact he.elim
    | goto l => exact he.elim
    | panic ch => exact he.elim
    | outgrown => exact he.elim
  exact hend

/-- A FUNCTION's CONTRACT OUT OF ITS BODY -/
theorem spec_of_awp {fz : Bool} {f : FuncId} {fn : Func} {c : Code} {rs : List ResultVar} {args : List AV} {outs : List (Option AV)} {r : AV} (hm : P.follows .mixedOrders = true) (hf : P.funcs[f]? = some fn) (hb : fn.body = some c) (hrs : fn.results = rs.toArray) (hname : fn.name ≠ "runtime.NumGoroutine") (hN : Nat.ble args.length fn.ntmps = true) (hnp : args.length ≤ np) (hok : codeOk np fn.ntmps c = true)
    (hfz : fz = false ∨ (outs = [] ∧ (args.all fun a => !a.nodeB) = true)) (hsig : sigsOk args outs) (h : AWP P M c (retP P fz args outs rs r) (initSt args)) (h6 : Nat.ble np 6 = true := by decide) : SpecX P f args outs r :=
  spec_of_awp_any (X := []) hm hf hb hrs hname hN hnp hok hfz hsig (by rw [mark_nil]; exact h) h6
end
end Go.AM
namespace Go.AM
open Go.RowKit (Below)
open Go.ChangeShapes

/-- all cells of a world, as the ghost of what nobody turns -/
def gho (w : World) : Gh := fun b o => match w.cell? ⟨b, o, none⟩ with | some x => if x.oneCell' then some x else none | none => none
theorem gho_cell {w : World} {b o : Nat} {x : Value} (h : w.cell? ⟨b, o, none⟩ = some x) (k : x.oneCell' = true) : gho w b o = some x := by unfold gho; rw [h]; simp [k]
theorem held_gho (w : World) (hb : ∀ b cs, (b, cs) ∈ baseRows → ∃ t f x, w.heap[b]? = some (.cells cs t f) ∧ gho w b 0 = some x) : Held (gho w) w := ⟨fun b o x h => by
  unfold gho at h
  split at h
  · rename_i y hy
    split at h
    · rename_i hk; cases h; exact ⟨hy, hk⟩
    · cases h
  · (cases h), hb⟩

def Opens (P : Program) (t : TypeId) (α : Type) (cells : α → List AV) (wf : α → Prop) : Prop :=
  ∀ (H : Type) (enc : TypeId × Value → H) (w : World) (sp : Nat → Bool) (held : Bool) (fuel : Nat) (cs : List Value) (x : DataW H × List MemPlace), DataW.trod enc P w 0 sp held fuel t cs = some x →
    ∃ a : α, wf a ∧ (cells a).length = cs.length ∧ ∀ j (hj : j < (cells a).length) (hk : j < cs.length), RepS (gho w) ((cells a)[j]) (cs[j]) ∧ (cs[j]).oneCell' = true

/-- a number that an int64 holds -/
def intOk (n : Int) : Prop := -9223372036854775808 ≤ n ∧ n ≤ 9223372036854775807

section
variable {P : Program} {t e : TypeId} {α β γ : Type} {cells : α → List AV} {wf : α → Prop}

theorem opens_int (ht : P.underlying t = some (.int .i64)) : Opens P t Int (fun n => [.i64 n]) intOk := by
  intro H enc w sp held fuel cs x h
  obtain ⟨n, rfl, _, hw⟩ := DataW.trod_int ht h
  refine ⟨n, ?_, rfl, fun j hj hk => ?_⟩
  · simp only [Lit.wf, Bool.and_eq_true, decide_eq_true_eq] at hw
    have e1 : IntKind.i64.min = -9223372036854775808 := by decide
    have e2 : IntKind.i64.max = 9223372036854775807 := by decide
    rw [e1, e2] at hw
    exact hw
  · have : j = 0 := by simp at hj; omega
    subst this
    exact ⟨.v _, rfl⟩
theorem opens_bool (ht : P.underlying t = some .bool) : Opens P t Bool (fun b => [.bl b]) (fun _ => True) := by
  intro H enc w sp held fuel cs x h
  obtain ⟨b, rfl, _⟩ := DataW.trod_bool ht h
  refine ⟨b, trivial, rfl, fun j hj hk => ?_⟩
  have : j = 0 := by simp at hj; omega
  subst this
  exact ⟨.v _, rfl⟩
theorem opens_string (ht : P.underlying t = some .string) : Opens P t (List UInt8) (fun l => [.st l]) (fun l => l.length ≤ 9223372036854775807) := by
  intro H enc w sp held fuel cs x h
  obtain ⟨s, rfl, _, hs⟩ := DataW.trod_string ht h
  have e : maxLen = 9223372036854775807 := by decide
  have hs' : s.data.toList.length ≤ 9223372036854775807 := by rw [← e]; exact hs
  refine ⟨s.data.toList, hs', rfl, fun j hj hk => ?_⟩
  have : j = 0 := by simp at hj; omega
  subst this
  exact ⟨.v _, rfl⟩

theorem cells?_get {w : World} {a : Addr} {n : Nat} {cs : List Value} (h : w.cells? 0 a n = some cs) : cs.length = n ∧ ∀ j (hj : j < cs.length), w.cell? (a.add j) = some (cs[j]) := by
  unfold World.cells? at h
  rw [if_pos (Nat.zero_le _)] at h
  have hl := mapM_some_length h
  rw [List.length_range] at hl
  refine ⟨hl, fun j hj => ?_⟩
  have := mapM_some_get h j j (by rw [List.getElem?_eq_getElem (by rw [List.length_range]; omega), List.getElem_range])
  rw [this, List.getElem?_eq_getElem hj]

theorem spot_none {w : World} {a : Addr} {x : Value} (h : w.cell? a = some x) : a.spot = none := by
  unfold World.cell? at h
  split at h
  · split at h
    · cases h
    · rename_i q; simpa using q
  · cases h

theorem opens_slice (ht : P.underlying t = some (.slice e)) {z : Nat} (hz : P.cellsOf e = z) (hz0 : 0 < z) (el : α → AV) (hel : ∀ a, (el a).cells = cells a) (h : Opens P e α cells wf) :
    Opens P t (List α) (fun l => [.sl z (l.map el)]) (fun l => l.length ≤ 9223372036854775807 ∧ ∀ b ∈ l, wf b) := by
  intro H enc w sp held fuel cs x hx
  rcases DataW.trod_slice ht hx with ⟨rfl, _⟩ | ⟨a, len, cap, elems, rest, n, _, rfl, _, _, hl, hm, hlen, hel', _⟩
  · refine ⟨[], ⟨by simp, fun b hb => by cases hb⟩, rfl, fun j hj hk => ?_⟩
    have : j = 0 := by simp at hj; omega
    subst this
    exact ⟨.nil z none, rfl⟩
  · have each : ∀ i, i < len → ∃ (b : α) (c1 : List Value), wf b ∧ w.cells? 0 (a.add (i * z)) z = some c1 ∧ (cells b).length = c1.length ∧ ∀ j (hj : j < (cells b).length) (hk : j < c1.length), RepS (gho w) ((cells b)[j]) (c1[j]) ∧ (c1[j]).oneCell' = true := by
      intro i hi
      have := hel' i hi
      rw [List.getElem?_eq_getElem (by omega), hz, Option.bind_eq_some_iff] at this
      obtain ⟨c1, h1, h2⟩ := this
      obtain ⟨b, h3, h4, h5⟩ := h H enc w sp held n c1 _ h2
      exact ⟨b, c1, h3, h1, h4, h5⟩
    have pick : ∀ m, m ≤ len → ∃ (l : List α) (f : Nat → List Value), l.length = m ∧ ∀ i (hi : i < l.length), wf (l[i]) ∧ w.cells? 0 (a.add (i * z)) z = some (f i) ∧ (cells (l[i])).length = (f i).length ∧ ∀ j (hj : j < (cells (l[i])).length) (hk : j < (f i).length), RepS (gho w) ((cells (l[i]))[j]) ((f i)[j]) ∧ ((f i)[j]).oneCell' = true := by
      intro m
      induction m with
      | zero => exact fun _ => ⟨[], fun _ => [], rfl, fun i hi => by cases hi⟩
      | succ m ih =>
        intro hm'
        obtain ⟨l, f, h1, h2⟩ := ih (by omega)
        obtain ⟨b, c1, h3⟩ := each m (by omega)
        refine ⟨l ++ [b], fun i => if i = m then c1 else f i, by simp [h1], fun i hi => ?_⟩
        by_cases hil : i = m
        · subst hil
          have : (l ++ [b])[i] = b := by rw [List.getElem_append_right (by omega)]; simp [h1]
          simp only [this, if_true]
          exact h3
        · have hi' : i < l.length := by simp at hi; omega
          have : (l ++ [b])[i] = l[i] := List.getElem_append_left hi'
          simp only [this, hil, if_false]
          exact h2 i hi'
    obtain ⟨l, f, hll, hf⟩ := pick len (Nat.le_refl _)
    refine ⟨l, ⟨by have : maxLen = 9223372036854775807 := rfl; omega, fun b hb => ?_⟩, rfl, fun j hj hk => ?_⟩
    · obtain ⟨i, hi, rfl⟩ := List.getElem_of_mem hb
      exact (hf i hi).1
    · have : j = 0 := by simp at hj; omega
      subst this
      refine ⟨?_, rfl⟩
      show RepS (gho w) (.sl z (l.map el)) (.slice (some a) len cap)
      cases hlen0 : len with
      | zero =>
        have : l = [] := List.eq_nil_of_length_eq_zero (by omega)
        rw [this]
        exact .nila z a cap
      | succ len' =>
        have hcl : ∀ i (hi : i < l.length), (f i).length = z := fun i hi => (cells?_get (hf i hi).2.1).1
        have hsp : a.spot = none := by
          have h0 := hf 0 (by omega)
          have h1 := cells?_get h0.2.1
          have := spot_none (h1.2 0 (by rw [hcl 0 (by omega)]; exact hz0))
          simpa [Addr.add] using this
        obtain ⟨b, off, spot⟩ := a
        simp only at hsp
        subst hsp
        have e0 : len' + 1 = (l.map el).length := by simp; omega
        rw [e0]
        refine .sl z (l.map el) b off cap (fun i j => (f i).getD j undef) (fun i hi => ?_) (by simp; omega) (fun i hi j hj => ?_) (fun i hi j hj => ?_)
        · simp at hi ⊢
          rw [hel, (hf i hi).2.2.1]; exact hcl i hi
        · simp at hi
          have hjl : j < (f i).length := by rw [hcl i hi]; exact hj
          have h1 := (cells?_get (hf i hi).2.1).2 j hjl
          rw [addr_add, addr_add] at h1
          have : (f i).getD j undef = (f i)[j] := by simp [List.getD, hjl]
          rw [this]
          exact gho_cell h1 ((hf i hi).2.2.2 j (by rw [(hf i hi).2.2.1]; exact hjl) hjl).2
        · simp at hi
          have hje : j < (cells (l[i])).length := by simpa [hel] using hj
          have hjl : j < (f i).length := by rw [← (hf i hi).2.2.1]; exact hje
          have : (f i).getD j undef = (f i)[j] := by simp [List.getD, hjl]
          rw [this]
          have q := ((hf i hi).2.2.2 j hje hjl).1
          simpa [hel] using q

def OpensFs (P : Program) (L : Nat) (fs : List Field) (o : Nat) (α : Type) (cells : α → List AV) (wf : α → Prop) : Prop :=
  ∀ (H : Type) (enc : TypeId × Value → H) (w : World) (sp : Nat → Bool) (held : Bool) (fuel : Nat) (cs : List Value), cs.length = L → (∀ (i : Nat) (f : Field), fs[i]? = some f → ∃ x, DataW.trod enc P w 0 sp held fuel f.type ((cs.drop f.offset).take (P.cellsOf f.type)) = some x) →
    ∃ a : α, wf a ∧ o + (cells a).length = cs.length ∧ ∀ j (hj : j < (cells a).length) (hk : o + j < cs.length), RepS (gho w) ((cells a)[j]) (cs[o + j]) ∧ (cs[o + j]).oneCell' = true

theorem opensFs_nil {L : Nat} : OpensFs P L [] L Unit (fun _ => []) (fun _ => True) := by
  intro H enc w sp held fuel cs hl _
  exact ⟨(), trivial, by simp [hl], fun j hj => by cases hj⟩

theorem opensFs_cons {L o : Nat} {f : Field} {r : List Field} {cg : γ → List AV} {wg : γ → Prop} (t : TypeId) (n : Nat) (ht : f.type = t) (hn : P.cellsOf t = n) (ho : f.offset = o) (hL : o + n ≤ L) (hf : Opens P t α cells wf) (hr : OpensFs P L r (o + n) γ cg wg) :
    OpensFs P L (f :: r) o (α × γ) (fun p => cells p.1 ++ cg p.2) (fun p => wf p.1 ∧ wg p.2) := by
  subst ht
  intro H enc w sp held fuel cs hl hx
  obtain ⟨x, hx0⟩ := hx 0 f (by simp)
  obtain ⟨a, h1, h2, h3⟩ := hf H enc w sp held fuel _ x hx0
  obtain ⟨b, k1, k2, k3⟩ := hr H enc w sp held fuel cs hl fun i g hg => hx (i + 1) g (by simpa using hg)
  have e : (cells a).length = n := by rw [h2, hn, ho]; simp; omega
  refine ⟨(a, b), ⟨h1, k1⟩, by simp; omega, fun j hj hk => ?_⟩
  by_cases hjn : j < (cells a).length
  · have hc : j < ((cs.drop f.offset).take (P.cellsOf f.type)).length := by rw [← h2]; exact hjn
    have := h3 j hjn hc
    have e1 : ((cs.drop f.offset).take (P.cellsOf f.type))[j] = cs[o + j] := by simp [ho]
    rw [e1] at this
    rw [List.getElem_append_left hjn]
    exact this
  · have e3 : o + j = o + n + (j - n) := by omega
    have hj2 : j - n < (cg b).length := by simp at hj; omega
    have := k3 (j - n) hj2 (by omega)
    have hle : (cells a).length ≤ j := by omega
    rw [List.getElem_append_right hle]
    simp only [e]
    have e4 : cs[o + n + (j - n)]'(by omega) = cs[o + j] := by congr 1; omega
    rw [e4] at this
    exact this

theorem opens_struct {fs : List Field} {L : Nat} (ht : P.underlying t = some (.struct fs.toArray)) (hL : P.cellsOf t = L) (h : OpensFs P L fs 0 α cells wf) : Opens P t α cells wf := by
  subst hL
  intro H enc w sp held fuel cs x hx
  obtain ⟨xs, n, rfl, _, hcl, hxl, hxs⟩ := DataW.trod_struct ht hx
  obtain ⟨a, h1, h2, h3⟩ := h H enc w sp held n cs hcl fun i f hf => by
    have hi : i < fs.length := by have := (List.getElem?_eq_some_iff.1 hf).1; simpa using this
    have := hxs i f (by simpa using hf)
    rw [List.getElem?_eq_getElem (by rw [hxl]; simpa using hi)] at this
    exact ⟨_, this⟩
  refine ⟨a, h1, by omega, fun j hj hk => ?_⟩
  have := h3 j hj (by omega)
  simpa using this

theorem Opens.map (h : Opens P t α cells wf) (f : α → β) {cb : β → List AV} {wb : β → Prop} (hc : ∀ a, cb (f a) = cells a) (hw : ∀ a, wf a → wb (f a)) : Opens P t β cb wb := by
  intro H enc w sp held fuel cs x hx
  obtain ⟨a, h1, h2, h3⟩ := h H enc w sp held fuel cs x hx
  refine ⟨f a, hw a h1, by rw [hc]; exact h2, fun j hj hk => ?_⟩
  simp only [hc] at hj ⊢
  exact h3 j hj hk

theorem Opens.agg (h : Opens P t α cells wf) {H : Type} {enc : TypeId × Value → H} {w : World} {sp : Nat → Bool} {held : Bool} {r : Reach} {b : Nat} {v : Value} {d : DataW H} {ps : List MemPlace} (hag : aggT P t = some true) (hval : Value.okWide P w r b t v) (hd : DataW.Trod enc P w 0 sp held t v d ps) :
    ∃ a, wf a ∧ RepS (gho w) (.agg (cells a)) v := by
  obtain ⟨fuel, hf⟩ := hd
  obtain ⟨a, h1, h2, h3⟩ := h H enc w sp held fuel _ _ hf
  obtain ⟨cs, rfl⟩ : ∃ cs, v = .agg cs := by
    unfold aggT at hag
    unfold Value.okWide at hval
    split at hag
    · rename_i hu; rw [hu] at hval; obtain ⟨cs, h, _⟩ := hval; exact ⟨cs, h⟩
    · rename_i hu; rw [hu] at hval; obtain ⟨cs, h, _⟩ := hval; exact ⟨cs, h⟩
    · cases hag
    · cases hag
  have e : (Value.agg cs).cells = cs := rfl
  rw [e] at h2 h3
  refine ⟨a, h1, .agg _ cs (by simpa using h2.symm) fun j hj hk => ?_⟩
  have := (h3 j hj (by simpa using hk)).1
  simpa using this

theorem Opens.one (h : Opens P t α cells wf) {H : Type} {enc : TypeId × Value → H} {w : World} {sp : Nat → Bool} {held : Bool} {r : Reach} {b : Nat} {v : Value} {d : DataW H} {ps : List MemPlace} {el : α → AV} (hel : ∀ a, cells a = [el a]) (hag : aggT P t = some false) (hval : Value.okWide P w r b t v) (hd : DataW.Trod enc P w 0 sp held t v d ps) :
    ∃ a, wf a ∧ RepS (gho w) (el a) v := by
  obtain ⟨fuel, hf⟩ := hd
  obtain ⟨a, h1, h2, h3⟩ := h H enc w sp held fuel _ _ hf
  have e : v.cells = #[v] := by
    cases v with
    | agg cs =>
      exfalso
      unfold aggT at hag
      unfold Value.okWide at hval
      split at hag
      · cases hag
      · cases hag
      · rename_i d q1 q2 hu
        have hco : Cell.okWide P w r b t (.agg cs) := by
          rw [hu] at hval
          split at hval
          · rename_i hq; cases hq; exact (q1 _ rfl).elim
          · rename_i hq; cases hq; exact (q2 _ _ rfl).elim
          · exact hval
        unfold Cell.okWide Cell.ok at hco
        rw [hu] at hco
        cases d <;> simp at hco
      · cases hag
    | _ => rfl
  rw [e] at h3
  have := (h3 0 (by rw [hel]; simp) (by simp)).1
  refine ⟨a, h1, ?_⟩
  simpa [hel] using this
end

/-! ### a law's row -/
theorem trodAll_below {H : Type} {enc : TypeId × Value → H} {P : Program} (hl : laidOutB P = true) {W W' : World} (hb : Below W.heap.size W W') : ∀ {ts : List TypeId} {vs : List Value} {ds : List (DataW H)} {ps : List MemPlace},
    (∀ t ∈ ts, P.readableRec t = true ∧ t < P.types.size) → DataW.TrodAll enc P W 0 (fun _ => true) true ts vs ds ps → (∀ p ∈ ps, p.block < W.heap.size) → DataW.TrodAll enc P W' 0 (fun b => decide (b < W.heap.size)) true ts vs ds ps
  | [], [], [], ps, _, h, _ => h
  | t :: ts, v :: vs, d :: ds, ps, ht, ⟨p, q, h1, h2, h3⟩, hlt => by
    subst h3
    refine ⟨p, q, Below.trod hl (ht t (by simp)).1 (ht t (by simp)).2 h1 hb fun x hx => hlt x (List.mem_append_left _ hx), trodAll_below hl hb (fun t h => ht t (by simp [h])) h2 fun x hx => hlt x (List.mem_append_right _ hx), rfl⟩
  | [], _ :: _, _, _, _, h, _ => h.elim
  | [], [], _ :: _, _, _, h, _ => h.elim
  | _ :: _, [], _, _, _, h, _ => h.elim
  | _ :: _, _ :: _, [], _, _, h, _ => h.elim

def RepsL (I : Gh) : List AV → List Value → Prop
  | [], [] => True
  | a :: r, v :: s => RepS I a v ∧ RepsL I r s
  | _, _ => False
theorem repsL_get {I : Gh} : ∀ {as : List AV} {vs : List Value}, RepsL I as vs → vs.length = as.length ∧ ∀ j (hj : j < as.length) (hk : j < vs.length), RepS I (as[j]) (vs[j])
  | [], [], _ => ⟨rfl, fun j hj => by cases hj⟩
  | a :: r, v :: s, h => by
    obtain ⟨h1, h2⟩ := repsL_get h.2
    refine ⟨by simp [h1], fun j hj hk => ?_⟩
    cases j with
    | zero => exact h.1
    | succ j => exact h2 j (by simpa using hj) (by simpa using hk)
  | [], _ :: _, h => h.elim
  | _ :: _, [], h => h.elim

/-- A LAW's ROW OUT OF ITS FUNCTION's CONTRACT -/
theorem law_calls {H : Type} {enc : TypeId × Value → H} {P : Program} {f : Func} {fid : FuncId} {s : ChangeSpec} {W : World} {args : Array Value} {ds gs : List (DataW H)} {before : List MemPlace} {avs : List AV} {tb : TypeId} {ts : List TypeId}
    (hl : laidOutB P = true) (hp : f.params = ts.toArray) (hts : (ts.all fun t => P.readableRec t && decide (t < P.types.size)) = true) (hv : s.vars = []) (hrt : f.resultTypes = #[tb]) (hub : P.underlying tb = some .bool)
    (hfn : gs = [] → (s.fn H (ds ++ gs)).results = [.lit (.bool true)] ∧ (s.fn H (ds ++ gs)).args = ds ∧ (s.fn H (ds ++ gs)).vars = [])
    (hW : DataW.Whole enc P f.params.toList s.vars false W args.toList ds gs before) (hspec : SpecAt P fid avs (.bl true)) (hr : RepsL (gho W) avs args.toList) (hbase : ∀ b cs, (b, cs) ∈ baseRows → ∃ t f x, W.heap[b]? = some (.cells cs t f) ∧ gho W b 0 = some x := by intro _ _ h; cases h) :
    Calls P fid args W fun e W' => ∃ r, e = .returned r ∧ s.post enc P f false true false false W args r W' := by
  obtain ⟨hn, hr⟩ := repsL_get hr
  obtain ⟨_, _, _, hspec⟩ := hspec
  have hrs : ∀ j (hj : j < avs.length) (hk : j < args.size), RepS (gho W) (avs[j]) (args[j]) := fun j hj hk => by have q := hr j hj (by simpa using hk); rw [Array.getElem_toList] at q; exact q
  have hno : ∀ (s : Nat) (T : AV) (p : Path), avs[s]? = some T → (T.at p).isNode = false := by
    intro s T p hs
    obtain ⟨hlt, rfl⟩ := List.getElem?_eq_some_iff.1 hs
    exact rs_at (hrs s hlt (by simp at hn; omega)) p
  have hown : ∀ b, ¬ Owns (fun _ _ => none) (fun i => avs[i]?) b := fun b ⟨s, T, p, k, h1, h2, _⟩ => by rw [hno s T p h1] at h2; cases h2
  have hsep : Sep (gho W) (fun _ _ => none) W (fun i => avs[i]?) := ⟨fun s T p hs => node_false (hno s T p hs), (fun s T p k hs h1 => by rw [hno s T p hs] at h1; cases h1), (fun s T p k s' T' p' k' hs h1 => by rw [hno s T p hs] at h1; cases h1)⟩
  refine (hspec (gho W) (fun _ _ => none) W args (held_gho W hbase) (by simpa using hn) hsep fun j hj hk => rs_top (hrs j hj hk) _ _).mono ?_
  rintro e W' ⟨I', π', x, rfl, hI', hsep', hx, _, hbelX, _, _⟩
  have hb0 : BelowX (fun _ => False) W.heap.size W W' := hbelX.mono (Nat.le_refl _) fun k _ q => hown k q
  have hbel : Below W.heap.size W W' := ⟨hb0.os, hb0.tape, hb0.output, hb0.size, fun k hk => hb0.block k hk (fun q => q)⟩
  have hx' : x = .bool true := by
    have := top_stat hx rfl
    cases this; rfl
  subst hx'
  have hW' := hW
  obtain ⟨p, q, hA, hV, hpq, hfz, hnd⟩ := hW
  rw [hv] at hV
  obtain ⟨hgs, hq⟩ := trodVars_none hV
  subst hgs; subst hq
  obtain ⟨f1, f2, f3⟩ := hfn rfl
  have hts' : ∀ t ∈ f.params.toList, P.readableRec t = true ∧ t < P.types.size := fun t ht => by
    rw [hp] at ht
    have := List.all_eq_true.1 hts t (by simpa using ht)
    simpa using this
  refine ⟨_, rfl, ds, [], before, [], p, [], hW', ?_, ?_, ?_, Below.frame hbel _, fun h => by cases h⟩
  · rw [f1, hrt]
    exact trodAll_cons_mk (RowKit.shut_bool hub _) trodAll_mk0
  · rw [f2]
    exact trodAll_below hl hbel hts' hA fun x hx => hW'.lt x (by rw [hpq]; exact List.mem_append_left _ hx)
  · rw [f3, hv]; rfl
end Go.AM

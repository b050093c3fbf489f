/-
  THE ABSTRACT MACHINE IS SOUND: what it shows of a function holds of every call of that function.
-/
import Derived.Test.YtjlnccjhgngnoaaAMDef
import Derived.Laws.StructEq
import Derived.Laws.MakeOwn
import Derived.Laws.AppendOwn
import Derived.StillTail
set_option linter.unusedVariables false
set_option linter.unusedSimpArgs false
namespace Go.AM
open Go.RowKit (Below)

abbrev Gh := Nat → Nat → Option Value

theorem RepS.mono {I I' : Gh} (h : ∀ b o x, I b o = some x → I' b o = some x) {a : AV} {x : Value} (r : RepS I a x) : RepS I' a x := by
  induction r with
  | v x => exact .v x
  | nil sz => exact .nil sz
  | nila sz a cap => exact .nila sz a cap
  | sl sz es b off cap vals hsz hc hI hr ih => exact .sl sz es b off cap vals hsz hc (fun i hi j hj => h _ _ _ (hI i hi j hj)) ih
  | agg fs arr hn hr ih => exact .agg fs arr hn ih
  | tup fs arr hn hr ih => exact .tup fs arr hn ih
  | ep cs b off vals hI hr ih => exact .ep cs b off vals (fun j hj => h _ _ _ (hI j hj)) ih
  | fn f caps arr hn hr ih => exact .fn f caps arr hn ih

theorem Held.lt {I : Gh} {w : World} (h : Held I w) {b o : Nat} {x : Value} (e : I b o = some x) : b < w.heap.size :=
  World.block_lt_of_cell? w ⟨b, o, none⟩ (h.cell b o x e).1

theorem Grow.le {I I' : Gh} {w w' : World} (h : Held I w) (g : Grow I w I' w') : ∀ b o x, I b o = some x → I' b o = some x :=
  fun b o x e => (g.keeps b o (h.lt e)).trans e

theorem Grow.refl {I : Gh} {w : World} (h : Held I w) : Grow I w I w := ⟨h, Below.refl _ _, fun _ _ _ => rfl⟩
theorem Grow.trans {I I' I'' : Gh} {w w' w'' : World} (h : Grow I w I' w') (k : Grow I' w' I'' w'') : Grow I w I'' w'' :=
  ⟨k.held, h.below.trans (k.below.mono h.below.size), fun b o hb => (k.keeps b o (Nat.lt_of_lt_of_le hb h.below.size)).trans (h.keeps b o hb)⟩

/-- what an abstract value says of a value -/
inductive Rep (I : Gh) (ρ : Nat → Nat) (hs : Nat → Nat → Value) : AV → Value → Prop
  | any (x : Value) : Rep I ρ hs .any x
  | stat {a : AV} {x : Value} (h : RepS I a x) : Rep I ρ hs a x
  | loc (s off : Nat) : Rep I ρ hs (.loc s off) (.pointer (some ⟨ρ s, off, none⟩))
  | own (s z n : Nat) : Rep I ρ hs (.own s z n) (.slice (some ⟨ρ s, 0, none⟩) n n)
  | app (s z : Nat) (es : List AV) (x : Value) (h : x = hs s es.length) (r : RepS I (.sl z es) x) : Rep I ρ hs (.app s z es) x
  | agg (fs : List AV) (arr : Array Value) (hn : arr.size = fs.length) (hr : ∀ j (hj : j < fs.length) (hk : j < arr.size), Rep I ρ hs (fs[j]) (arr[j])) : Rep I ρ hs (.agg fs) (.agg arr)
  | tup (fs : List AV) (arr : Array Value) (hn : arr.size = fs.length) (hr : ∀ j (hj : j < fs.length) (hk : j < arr.size), Rep I ρ hs (fs[j]) (arr[j])) : Rep I ρ hs (.tup fs) (.tuple arr)
  | fn (f : FuncId) (caps : List AV) (arr : Array Value) (hn : arr.size = caps.length) (hr : ∀ j (hj : j < caps.length) (hk : j < arr.size), Rep I ρ hs (caps[j]) (arr[j])) : Rep I ρ hs (.fn f caps) (.func (.func f) #[] arr)

theorem Rep.mono {I I' : Gh} (h : ∀ b o x, I b o = some x → I' b o = some x) {ρ : Nat → Nat} {hs : Nat → Nat → Value} {a : AV} {x : Value} (r : Rep I ρ hs a x) : Rep I' ρ hs a x := by
  induction r with
  | any x => exact .any x
  | stat r => exact .stat (r.mono h)
  | loc s off => exact .loc s off
  | own s z n => exact .own s z n
  | app s z es x e r => exact .app s z es x e (r.mono h)
  | agg fs arr hn hr ih => exact .agg fs arr hn ih
  | tup fs arr hn hr ih => exact .tup fs arr hn ih
  | fn f caps arr hn hr ih => exact .fn f caps arr hn ih

/-- inversion -/
theorem rep_v {I : Gh} {ρ : Nat → Nat} {hs : Nat → Nat → Value} {x y : Value} (r : Rep I ρ hs (.v x) y) : y = x := by
  cases r with | stat h => cases h; rfl
theorem rep_loc {I : Gh} {ρ : Nat → Nat} {hs : Nat → Nat → Value} {s off : Nat} {y : Value} (r : Rep I ρ hs (.loc s off) y) : y = .pointer (some ⟨ρ s, off, none⟩) := by
  cases r with | stat h => cases h | loc => rfl
theorem rep_own {I : Gh} {ρ : Nat → Nat} {hs : Nat → Nat → Value} {s z n : Nat} {y : Value} (r : Rep I ρ hs (.own s z n) y) : y = .slice (some ⟨ρ s, 0, none⟩) n n := by
  cases r with | stat h => cases h | own => rfl
theorem rep_app {I : Gh} {ρ : Nat → Nat} {hs : Nat → Nat → Value} {s z : Nat} {es : List AV} {y : Value} (r : Rep I ρ hs (.app s z es) y) : y = hs s es.length ∧ RepS I (.sl z es) y := by
  cases r with | stat h => cases h | app _ _ _ _ h r => exact ⟨h, r⟩
theorem rep_ep {I : Gh} {ρ : Nat → Nat} {hs : Nat → Nat → Value} {cs : List AV} {y : Value} (r : Rep I ρ hs (.ep cs) y) : RepS I (.ep cs) y := by
  cases r with | stat h => exact h
theorem rep_sl {I : Gh} {ρ : Nat → Nat} {hs : Nat → Nat → Value} {z : Nat} {es : List AV} {y : Value} (r : Rep I ρ hs (.sl z es) y) : RepS I (.sl z es) y := by
  cases r with | stat h => exact h
theorem rep_agg {I : Gh} {ρ : Nat → Nat} {hs : Nat → Nat → Value} {fs : List AV} {y : Value} (r : Rep I ρ hs (.agg fs) y) : ∃ arr : Array Value, y = .agg arr ∧ arr.size = fs.length ∧ ∀ j (hj : j < fs.length) (hk : j < arr.size), Rep I ρ hs (fs[j]) (arr[j]) := by
  cases r with
  | stat h => cases h with | agg _ arr hn hr => exact ⟨arr, rfl, hn, fun j hj hk => .stat (hr j hj hk)⟩
  | agg _ arr hn hr => exact ⟨arr, rfl, hn, hr⟩
theorem rep_tup {I : Gh} {ρ : Nat → Nat} {hs : Nat → Nat → Value} {fs : List AV} {y : Value} (r : Rep I ρ hs (.tup fs) y) : ∃ arr : Array Value, y = .tuple arr ∧ arr.size = fs.length ∧ ∀ j (hj : j < fs.length) (hk : j < arr.size), Rep I ρ hs (fs[j]) (arr[j]) := by
  cases r with
  | stat h => cases h with | tup _ arr hn hr => exact ⟨arr, rfl, hn, fun j hj hk => .stat (hr j hj hk)⟩
  | tup _ arr hn hr => exact ⟨arr, rfl, hn, hr⟩
theorem rep_fn {I : Gh} {ρ : Nat → Nat} {hs : Nat → Nat → Value} {f : FuncId} {caps : List AV} {y : Value} (r : Rep I ρ hs (.fn f caps) y) : ∃ arr : Array Value, y = .func (.func f) #[] arr ∧ arr.size = caps.length ∧ ∀ j (hj : j < caps.length) (hk : j < arr.size), Rep I ρ hs (caps[j]) (arr[j]) := by
  cases r with
  | stat h => cases h with | fn _ _ arr hn hr => exact ⟨arr, rfl, hn, fun j hj hk => .stat (hr j hj hk)⟩
  | fn _ _ arr hn hr => exact ⟨arr, rfl, hn, hr⟩

/-- the call's own blocks -/
structure MemOk (I : Gh) (ρ : Nat → Nat) (hs : Nat → Nat → Value) (base : Nat) (mem : Nat → Option (List AV)) (w : World) : Prop where
  row : ∀ s cs, mem s = some cs → ∃ E arr, w.heap[ρ s]? = some (.cells arr E (0, 0)) ∧ arr.size = cs.length ∧ (∀ j (hj : j < cs.length) (hk : j < arr.size), Rep I ρ hs (cs[j]) (arr[j]) ∧ (arr[j]).oneCell' = true)
  lo : ∀ s cs, mem s = some cs → base ≤ ρ s
  free : ∀ s cs, mem s = some cs → ∀ o, I (ρ s) o = none
  inj : ∀ s s' cs cs', mem s = some cs → mem s' = some cs' → ρ s = ρ s' → s = s'

structure TokOk (P : Program) (I : Gh) (ρ : Nat → Nat) (hs : Nat → Nat → Value) (base : Nat) (mem : Nat → Option (List AV)) (tok : Nat → Option (Nat × Nat)) (w : World) : Prop where
  row : ∀ s n e, tok s = some (n, e) → 0 < sizeT P e ∧ ∃ xs, w.ownsRow base e (sizeT P e) (hs s n) n xs
  free : ∀ s n e, tok s = some (n, e) → ∀ g, (hs s n).ownBlock = some g → ∀ o, n * sizeT P e ≤ o → I g o = none
  apart : ∀ s n e, tok s = some (n, e) → ∀ g, (hs s n).ownBlock = some g → ∀ s' cs, mem s' = some cs → ρ s' ≠ g
  inj : ∀ s n e s' n' e', tok s = some (n, e) → tok s' = some (n', e') → ∀ g, (hs s n).ownBlock = some g → (hs s' n').ownBlock = some g → s = s'

structure Conc (P : Program) (N : Nat) (w0 : World) (I0 : Gh) (st : St) (a : Act) (w : World) (I : Gh) (ρ : Nat → Nat) (hs : Nat → Nat → Value) : Prop where
  held : Held I w
  below : Below w0.heap.size w0 w
  keeps : ∀ b o, b < w0.heap.size → I b o = I0 b o
  size : a.tmps.size = N
  defers : a.defers = []
  fr : ∀ i, Rep I ρ hs (st.fr i) (a.tmps.getD i undef)
  mem : MemOk I ρ hs w0.heap.size st.mem w
  tok : TokOk P I ρ hs w0.heap.size st.mem st.tok w

def CC (P : Program) (N : Nat) (w0 : World) (I0 : Gh) (st : St) (a : Act) (w : World) : Prop := ∃ I ρ hs, Conc P N w0 I0 st a w I ρ hs

theorem Conc.ev {P : Program} {N : Nat} {w0 : World} {I0 : Gh} {st : St} {a : Act} {w : World} {I : Gh} {ρ : Nat → Nat} {hs : Nat → Nat → Value} (c : Conc P N w0 I0 st a w I ρ hs) (x : Operand) : Rep I ρ hs (st.ev x) (a.eval x) := by
  cases x with
  | tmp t => exact c.fr t
  | const v => exact .stat (.v v)
  | global g => exact .any _
  | func f => exact .fn f [] #[] rfl (fun j hj => by cases hj)

/-- memory that a callee has made -/
theorem Conc.grow {P : Program} {N : Nat} {w0 : World} {I0 : Gh} {st : St} {a : Act} {w w' : World} {I I' : Gh} {ρ : Nat → Nat} {hs : Nat → Nat → Value} (c : Conc P N w0 I0 st a w I ρ hs) (g : Grow I w I' w') : Conc P N w0 I0 st a w' I' ρ hs := by
  have hle := g.le c.held
  have hsz := c.below.size
  have hblk : ∀ b, b < w.heap.size → w'.heap[b]? = w.heap[b]? := g.below.block
  have hlt : ∀ s cs, st.mem s = some cs → ρ s < w.heap.size := fun s cs h => by
    obtain ⟨E, arr, hh, _⟩ := c.mem.row s cs h
    exact (Array.getElem?_eq_some_iff.1 hh).1
  have htl : ∀ s n e, st.tok s = some (n, e) → ∀ b, (hs s n).ownBlock = some b → b < w.heap.size := fun s n e h b hb => by
    obtain ⟨_, xs, hx⟩ := c.tok.row s n e h
    exact (hx.lt b hb).2
  refine ⟨g.held, c.below.trans (g.below.mono hsz), fun b o hb => (g.keeps b o (Nat.lt_of_lt_of_le hb hsz)).trans (c.keeps b o hb), c.size, c.defers, fun i => (c.fr i).mono hle, ⟨?_, c.mem.lo, ?_, c.mem.inj⟩, ⟨?_, ?_, c.tok.apart, c.tok.inj⟩⟩
  · intro s cs h
    obtain ⟨E, arr, hh, hn, hr⟩ := c.mem.row s cs h
    exact ⟨E, arr, (hblk _ (hlt s cs h)).trans hh, hn, fun j hj hk => ⟨(hr j hj hk).1.mono hle, (hr j hj hk).2⟩⟩
  · intro s cs h o
    rw [g.keeps _ _ (hlt s cs h)]; exact c.mem.free s cs h o
  · intro s n e h
    obtain ⟨hz, xs, hx⟩ := c.tok.row s n e h
    refine ⟨hz, xs, hx.1, ?_⟩
    rcases hx.2 with hn | ⟨gb, cap, cur, hv, hb, hg, r⟩
    · exact .inl hn
    · exact .inr ⟨gb, cap, cur, hv, hb, by rw [hblk gb (Array.getElem?_eq_some_iff.1 hg).1]; exact hg, r⟩
  · intro s n e h b hb o ho
    rw [g.keeps _ _ (htl s n e h b hb)]; exact c.tok.free s n e h b hb o ho

/-- a slot is filled -/
theorem Conc.put {P : Program} {N : Nat} {w0 : World} {I0 : Gh} {st : St} {a : Act} {w : World} {I : Gh} {ρ : Nat → Nat} {hs : Nat → Nat → Value} (c : Conc P N w0 I0 st a w I ρ hs) (d : Option Nat) (hd : ∀ t, d = some t → t < N) {v : AV} {x : Value} (r : Rep I ρ hs v x) : Conc P N w0 I0 (st.put d v) (a.put d x) w I ρ hs := by
  cases d with
  | none => exact c
  | some d =>
    refine ⟨c.held, c.below, c.keeps, by simpa [Act.put] using c.size, c.defers, fun i => ?_, c.mem, c.tok⟩
    show Rep I ρ hs (if i = d then v else st.fr i) ((a.tmps.setIfInBounds d x).getD i undef)
    by_cases hi : i = d
    · subst hi
      have hlt : i < a.tmps.size := by rw [c.size]; exact hd i rfl
      rw [if_pos rfl]
      have : (a.tmps.setIfInBounds i x).getD i undef = x := by simp [Array.getD, hlt]
      rw [this]; exact r
    · rw [if_neg hi]
      have : (a.tmps.setIfInBounds d x).getD i undef = a.tmps.getD i undef := by
        simp [Array.getD_eq_getD_getElem?, Array.getElem?_setIfInBounds_ne (Ne.symm hi)]
      rw [this]; exact c.fr i

end Go.AM
namespace Go.AM
open Go.RowKit (Below)

/-- what is known when an operation begins -/
structure Env (P : Program) (I : Gh) (ρ : Nat → Nat) (hs : Nat → Nat → Value) (base : Nat) (ev : Operand → AV) (mem : Nat → Option (List AV)) (a : Act) (w : World) : Prop where
  held : Held I w
  ev : ∀ x, Rep I ρ hs (ev x) (a.eval x)
  mem : MemOk I ρ hs base mem w

/-- what an operation that turns nothing leaves -/
def FOut (I : Gh) (ρ : Nat → Nat) (hs : Nat → Nat → Value) (d : Option Nat) (a : Act) (w : World) (K : AV → Prop) (B : AV → List AV → Prop) (a' : Act) (w' : World) : Prop :=
  (∃ v x I', a' = a.put d x ∧ K v ∧ Rep I' ρ hs v x ∧ Grow I w I' w') ∨
  (∃ v cs x arr E, a' = a.put d x ∧ B v cs ∧ w' = w.alloc (.cells arr E) ∧ arr.size = cs.length ∧ (∀ j (hj : j < cs.length) (hk : j < arr.size), Rep I ρ hs (cs[j]) (arr[j]) ∧ (arr[j]).oneCell' = true) ∧
    ((v = .loc (d.getD 0) 0 ∧ x = .pointer (some ⟨w.heap.size, 0, none⟩)) ∨ ∃ z n, v = .own (d.getD 0) z n ∧ x = .slice (some ⟨w.heap.size, 0, none⟩) n n))

theorem wp_value {P : Program} {o : Oper} {a : Act} {w w' : World} {K : Act → World → Prop} {Q : Exit → Act → World → Prop} {x : Value} (h : (execOp a.eval o).run P w = .ok (.value x) w') (k : K (a.put o.dst x) w') : o.wp P a w K Q := by
  unfold Oper.wp; rw [h]; exact k

theorem wp_skip' {P : Program} {o : Oper} {a : Act} {w w' : World} {K : Act → World → Prop} {Q : Exit → Act → World → Prop} (h : (execOp a.eval o).run P w = .ok .skip w') (k : K (a.put o.dst undef) w') : o.wp P a w K Q := by
  unfold Oper.wp; rw [h]; exact k

section types
variable {P : Program} {t e : TypeId}
theorem aggT_isAgg {b : Bool} (h : aggT P t = some b) (w : World) : (isAgg t).run P w = .ok b w := by
  unfold aggT at h
  cases hu : P.underlying t with
  | none => simp [hu] at h
  | some d => rw [hu] at h; cases d <;> simp [isAgg, run_underlying hu] at h ⊢ <;> exact h
theorem underlying_info {d : TypeDesc} (h : P.underlying t = some d) : ∃ i, P.info? t = some i := by
  unfold Program.underlying at h
  cases hi : P.info? t with
  | none => simp [hi] at h
  | some i => exact ⟨i, rfl⟩
theorem aggT_info {b : Bool} (h : aggT P t = some b) : ∃ i, P.info? t = some i := by
  unfold aggT at h
  cases hu : P.underlying t with
  | none => simp [hu] at h
  | some d => exact underlying_info hu
theorem sizeT_run {i : TypeInfo} (h : P.info? t = some i) (w : World) : (sizeOf t).run P w = .ok (sizeT P t) w := by
  simp [sizeOf, typeInfo, h, sizeT]
theorem elemT_spec (h : elemT P t = some e) : P.underlying t = some (.slice e) ∧ ∃ i, P.info? e = some i := by
  unfold elemT at h
  cases hu : P.underlying t with
  | none => simp [hu] at h
  | some d =>
    rw [hu] at h
    cases d <;> simp at h
    rename_i e'
    cases hi : P.info? e' with
    | none => simp [hi] at h
    | some i => simp [hi] at h; subst h; exact ⟨rfl, i, hi⟩
theorem zeroT_spec {z : List Value} (h : zeroT P t = some z) : ∃ i v, P.info? t = some i ∧ i.zero = some v ∧ v.cells.toList = z := by
  unfold zeroT at h
  cases hi : P.info? t with
  | none => simp [hi] at h
  | some i =>
    rw [hi] at h
    simp only [Option.map_eq_some_iff] at h
    obtain ⟨v, hv, hz⟩ := h
    exact ⟨i, v, rfl, hv, hz⟩
theorem fieldT_spec {i off : Nat} {ft : TypeId} (h : fieldT P t i = some (off, ft)) : ∃ fs f inf, P.underlying t = some (.struct fs) ∧ fs[i]? = some f ∧ f.offset = off ∧ f.type = ft ∧ P.info? ft = some inf ∧ inf.size ≠ 0 := by
  unfold fieldT at h
  cases hu : P.underlying t with
  | none => simp [hu] at h
  | some d =>
    rw [hu] at h
    cases d <;> simp at h
    rename_i fs
    obtain ⟨f, hf, h⟩ := Option.bind_eq_some_iff.1 h
    cases hi : P.info? f.type with
    | none => simp [hi] at h
    | some inf =>
      simp only [hi] at h
      split at h
      · cases h
      · rename_i hne
        simp only [Option.some.injEq, Prod.mk.injEq] at h
        exact ⟨fs, f, inf, rfl, hf, h.1, h.2, h.2 ▸ hi, hne⟩
end types

section cells
variable {P : Program} {I : Gh} {ρ : Nat → Nat} {hs : Nat → Nat → Value}
theorem addr_add (b o j : Nat) : (⟨b, o, none⟩ : Addr).add j = ⟨b, o + j, none⟩ := by
  unfold Addr.add; split <;> simp_all

/-- cells that are known, read as a variable of a type -/
theorem loadCs_sound {t : TypeId} {cs : List AV} {off : Nat} {K : AV → Prop} {b o : Nat} {w : World} (vals : Nat → Value) (hc : ∀ j, j < cs.length → w.cell? ⟨b, o + j, none⟩ = some (vals j)) (hr : ∀ j (hj : j < cs.length), Rep I ρ hs (cs[j]) (vals j))
    (h : loadCs (aggT P t) (sizeT P t) cs off K .mk) : ∃ v x, (loadVar t ⟨b, o + off, none⟩).run P w = .ok x w ∧ K v ∧ Rep I ρ hs v x := by
  cases ha : aggT P t with
  | none => rw [ha] at h; exact h.elim
  | some g =>
    rw [ha] at h
    obtain ⟨i, hi⟩ := aggT_info ha
    cases g with
    | true =>
      obtain ⟨hl, k⟩ := h
      have hlen : ((List.range (sizeT P t)).map fun j => vals (off + j)).length = sizeT P t := by simp
      have hl' := run_loadCells (P := P) w ⟨b, o + off, none⟩ (sizeT P t) (fun j => vals (off + j)) (fun j hj => by rw [addr_add, Nat.add_assoc]; exact hc _ (by omega))
      refine ⟨_, .agg ((List.range (sizeT P t)).map fun j => vals (off + j)).toArray, ?_, k, ?_⟩
      · simp [loadVar, aggT_isAgg ha, sizeT_run hi, hl']
      · refine .agg _ _ (by simp; omega) fun j hj hk => ?_
        simp at hj hk ⊢
        exact hr _ (by omega)
    | false =>
      obtain ⟨hl, k⟩ := h
      refine ⟨_, vals off, ?_, k, ?_⟩
      · simp [loadVar, aggT_isAgg ha, hc off hl]
      · have : cs.getD off .any = cs[off] := by simp [List.getD, hl]
        rw [this]; exact hr off hl
end cells

end Go.AM
namespace Go.AM
open Go.RowKit (Below)

section
variable {P : Program} {I : Gh} {ρ : Nat → Nat} {hs : Nat → Nat → Value} {w : World}

/-- the plain kind of outcome of a pure reckoning: its run, and what its value says -/
def Yields (P : Program) (I : Gh) (ρ : Nat → Nat) (hs : Nat → Nat → Value) (w : World) (s : Sem Value) (K : AV → Prop) : Prop := ∃ v x, s.run P w = .ok x w ∧ K v ∧ Rep I ρ hs v x

theorem Yields.mk {s : Sem Value} {K : AV → Prop} {v : AV} {x : Value} (h : s.run P w = .ok x w) (k : K v) (r : Rep I ρ hs v x) : Yields P I ρ hs w s K := ⟨v, x, h, k, r⟩
theorem Yields.v {s : Sem Value} {K : AV → Prop} {x : Value} (h : s.run P w = .ok x w) (k : K (.v x)) : Yields P I ρ hs w s K := ⟨_, x, h, k, .stat (.v x)⟩

theorem run_eqGuard_int (op : BinOp) (t : TypeId) (x y : Operand) (k k' : IntKind) (a b : Int) : (eqGuard op t x y (.int k a) (.int k' b)).run P w = .ok () w := by
  cases op <;> simp [eqGuard]
theorem run_eqGuard_str (op : BinOp) (t : TypeId) (x y : Operand) (a b : ByteArray) : (eqGuard op t x y (.string a) (.string b)).run P w = .ok () w := by
  cases op <;> simp [eqGuard]
theorem run_eqGuard_bool (op : BinOp) (t : TypeId) (x y : Operand) (a b : Bool) : (eqGuard op t x y (.bool a) (.bool b)).run P w = .ok () w := by
  cases op <;> simp [eqGuard]

theorem intBin_sound {op : BinOp} {k : IntKind} {m n : Int} {K : AV → Prop} (h : intBin op k m n K .mk) (hsh : op ≠ .shl) (hsh' : op ≠ .shr) (t : TypeId) : Yields P I ρ hs w (binOp op t (.int k m) (.int k n)) K := by
  cases op <;> simp only [intBin] at h
  case quo => exact .v (by simp [binOp, Op.intDiv, h.1]) h.2
  case rem => exact .v (by simp [binOp, Op.intDiv, h.1]) h.2
  case and => exact .v (by simp [binOp, Op.intBits, bitsI]) h
  case or => exact .v (by simp [binOp, Op.intBits, bitsI]) h
  case xor => exact .v (by simp [binOp, Op.intBits, bitsI]) h
  case andNot => exact .v (by simp [binOp, Op.intBits, bitsI]) h
  case add => exact .v (by simp [binOp, Op.intArith]) h
  case sub => exact .v (by simp [binOp, Op.intArith]) h
  case mul => exact .v (by simp [binOp, Op.intArith]) h
  all_goals exact .v (by simp [binOp, Op.intCmp]) h

theorem intBin2_sound {op : BinOp} {k k' : IntKind} {m n : Int} {K : AV → Prop} (h : intBin2 op k k' m n K .mk) (t : TypeId) : Yields P I ρ hs w (binOp op t (.int k m) (.int k' n)) K := by
  by_cases h1 : op = .shl
  · subst h1
    simp only [intBin2] at h
    exact .v (by have : ¬ n < 0 := by have := h.1; omega
                 simp [binOp, Op.shift, this]) h.2
  · by_cases h2 : op = .shr
    · subst h2
      simp only [intBin2] at h
      exact .v (by have : ¬ n < 0 := by have := h.1; omega
                   simp [binOp, Op.shift, this]) h.2
    · have h' : vc (k = k') (intBin op k m n K .mk) .mk := by cases op <;> first | exact (h1 rfl).elim | exact (h2 rfl).elim | exact h
      obtain ⟨rfl, h'⟩ := h'
      exact intBin_sound h' h1 h2 t

theorem strBin_sound {op : BinOp} {a b : ByteArray} {K : AV → Prop} (h : strBin op a b K .mk) (t : TypeId) : Yields P I ρ hs w (binOp op t (.string a) (.string b)) K := by
  cases op <;> simp only [strBin] at h <;> try exact h.elim
  case add =>
    have hn : ¬ (9223372036854775807 : Int) < a.size + b.size := by have := h.1; omega
    exact .v (by simp [binOp, Op.stringOp, IntKind.max, IntKind.bits, IntKind.signed, hn]) h.2
  all_goals exact .v (by simp [binOp, Op.stringOp]) h

theorem run_equal_bool {t : TypeId} (hu : P.underlying t = some .bool) (a b : Bool) : (Op.equal t (.bool a) (.bool b)).run P w = .ok (a == b) w := by
  unfold Op.equal Op.maxDepth
  show (Op.equalIn (9999 + 1) t _ _).run P w = _
  rw [Op.equalIn, Sem.run_bind, run_underlying hu]
  rfl

theorem boolBin_sound {op : BinOp} {t : TypeId} {a b : Bool} {K : AV → Prop} (h : boolBin P op t a b K .mk) : Yields P I ρ hs w (binOp op t (.bool a) (.bool b)) K := by
  have hb : boolT P t = true → P.underlying t = some .bool := fun h => by
    unfold boolT at h
    cases hu : P.underlying t with
    | none => simp [hu] at h
    | some d => rw [hu] at h; cases d <;> simp_all
  cases op <;> simp only [boolBin] at h <;> try exact h.elim
  all_goals exact .v (by simp [binOp, run_equal_bool (hb h.1)]) h.2

theorem eqFs_sound {fs gs : List AV} {xs ys : Array Value} (hx : ∀ j (hj : j < fs.length), ∃ hk : j < xs.size, Rep I ρ hs (fs[j]) (xs[j])) (hy : ∀ j (hj : j < gs.length), ∃ hk : j < ys.size, Rep I ρ hs (gs[j]) (ys[j])) :
    ∀ (l : List Field) (L : List (Nat × Nat)) (b : Bool), eqFs P l = some L → eqCs fs gs L = some b → (Op.eqFields 9999 xs ys l).run P w = .ok b w
  | [], L, b, h, k => by simp [eqFs] at h; subst h; simp [eqCs] at k; subst k; simp [Op.eqFields]
  | f :: r, L, b, h, k => by
    simp only [eqFs] at h
    cases h1 : eqK P f with
    | none => simp [h1] at h
    | some p =>
      cases h2 : eqFs P r with
      | none => simp [h1, h2] at h
      | some L' =>
        simp only [h1, h2, Option.some.injEq] at h
        subst h
        obtain ⟨o, c⟩ := p
        simp only [eqCs] at k
        cases k1 : eqV c (fs.getD o .any) (gs.getD o .any) with
        | none => rw [k1] at k; exact absurd k (by cases eqCs fs gs L' <;> exact fun q => by cases q)
        | some b1 =>
          cases k2 : eqCs fs gs L' with
          | none => rw [k1, k2] at k; cases k
          | some b2 =>
            simp only [k1, k2, and2, Option.some.injEq] at k
            subst k
            have ih := eqFs_sound hx hy r L' b2 h2 k2
            unfold eqK at h1
            split at h1
            · cases h1
            rename_i hname
            have get : ∀ {fs : List AV} {xs : Array Value}, (∀ j (hj : j < fs.length), ∃ hk : j < xs.size, Rep I ρ hs (fs[j]) (xs[j])) → ∀ {v : Value}, fs.getD o .any = .v v → xs[o]? = some v := by
              intro fs xs hx v hv
              by_cases ho : o < fs.length
              · obtain ⟨hk, hr⟩ := hx o ho
                have e : fs.getD o .any = fs[o] := by simp [List.getD, ho]
                rw [← e, hv] at hr
                rw [Array.getElem?_eq_getElem hk, rep_v hr]
              · have e : fs.getD o .any = .any := by rw [List.getD_eq_getElem?_getD, List.getElem?_eq_none (by omega)]; rfl
                rw [e] at hv; cases hv
            have hpart : ∀ {xs : Array Value} {v : Value}, aggT P f.type = some false → f.offset = o → xs[o]? = some v → (part f.type xs f.offset).run P w = .ok v w := by
              intro xs v ha ho hv
              rw [ho]
              simp [part, aggT_isAgg ha, hv]
            have fin : ∀ {u v : Value}, aggT P f.type = some false → f.offset = o → xs[o]? = some u → ys[o]? = some v → (Op.equalIn 9999 f.type u v).run P w = .ok b1 w → (Op.eqFields 9999 xs ys (f :: r)).run P w = .ok (b1 && b2) w := by
              intro u v ha ho hu hv he
              have p1 := hpart (xs := xs) ha ho hu
              have p2 := hpart (xs := ys) ha ho hv
              simp only [Op.eqFields, if_pos hname, ne_eq, hname, not_false_eq_true, if_true, Sem.run_bind, p1, p2, he, Result.andThen_ok, Sem.run_ite]
              cases b1
              · simp
              · simp [ih]
            split at h1
            · rename_i k0 hu
              cases h1
              have ha : aggT P f.type = some false := by unfold aggT; rw [hu]
              cases e1 : fs.getD f.offset .any <;> rw [e1] at k1 <;> try (simp [eqV] at k1; done)
              rename_i u
              cases u <;> try (simp [eqV] at k1; done)
              rename_i ka a
              cases e2 : gs.getD f.offset .any <;> rw [e2] at k1 <;> try (simp [eqV] at k1; done)
              rename_i v
              cases v <;> try (simp [eqV] at k1; done)
              rename_i kb b
              simp only [eqV] at k1
              split at k1
              · rename_i hkk
                cases k1
                subst hkk
                exact fin ha rfl (get hx e1) (get hy e2) (run_equalIn_int w 9998 f.type ka k0 a b hu)
              · cases k1
            · rename_i hu
              cases h1
              have ha : aggT P f.type = some false := by unfold aggT; rw [hu]
              cases e1 : fs.getD f.offset .any <;> rw [e1] at k1 <;> try (simp [eqV] at k1; done)
              rename_i u
              cases u <;> try (simp [eqV] at k1; done)
              rename_i a
              cases e2 : gs.getD f.offset .any <;> rw [e2] at k1 <;> try (simp [eqV] at k1; done)
              rename_i v
              cases v <;> try (simp [eqV] at k1; done)
              rename_i b
              simp only [eqV, Option.some.injEq] at k1
              subst k1
              exact fin ha rfl (get hx e1) (get hy e2) (run_equalIn_bool' w 9998 f.type a b hu)
            · rename_i hu
              cases h1
              have ha : aggT P f.type = some false := by unfold aggT; rw [hu]
              cases e1 : fs.getD f.offset .any <;> rw [e1] at k1 <;> try (simp [eqV] at k1; done)
              rename_i u
              cases u <;> try (simp [eqV] at k1; done)
              rename_i a
              cases e2 : gs.getD f.offset .any <;> rw [e2] at k1 <;> try (simp [eqV] at k1; done)
              rename_i v
              cases v <;> try (simp [eqV] at k1; done)
              rename_i b
              simp only [eqV, Option.some.injEq] at k1
              subst k1
              exact fin ha rfl (get hx e1) (get hy e2) (run_equalIn_string w 9998 f.type a b hu)
            · cases h1

theorem eqT_sound {t : TypeId} {L : List (Nat × Nat)} (h : eqT P t = some L) {fs gs : List AV} {u v : Value} (hx : Rep I ρ hs (.agg fs) u) (hy : Rep I ρ hs (.agg gs) v) {b : Bool} (hb : eqCs fs gs L = some b) (xo yo : Operand) :
    (do eqGuard .eql t xo yo u v; binOp .eql t u v : Sem Value).run P w = .ok (.bool b) w ∧ (do eqGuard .neq t xo yo u v; binOp .neq t u v : Sem Value).run P w = .ok (.bool (!b)) w := by
  obtain ⟨xs, rfl, n1, r1⟩ := rep_agg hx
  obtain ⟨ys, rfl, n2, r2⟩ := rep_agg hy
  unfold eqT at h
  split at h
  · rename_i hc
    cases hu : P.underlying t with
    | none => rw [hu] at h; cases h
    | some d =>
      rw [hu] at h
      cases d <;> try (cases h; done)
      rename_i fl
      have hf : P.fieldsOf t = fl := by unfold Program.fieldsOf; rw [hu]
      have he := eqFs_sound (w := w) (xs := xs) (ys := ys) (fun j hj => ⟨by omega, r1 j hj (by omega)⟩) (fun j hj => ⟨by omega, r2 j hj (by omega)⟩) fl.toList L b h hb
      have hrun := run_equalIn_struct w 9999 t xs ys (by rw [hf]; exact hu) hc.1
      rw [hf, he] at hrun
      constructor
      · rw [Sem.run_bind, run_eqGuard_agg w .eql t xo yo xs ys hc.2, Result.andThen_ok, run_eql_struct, hrun]; rfl
      · rw [Sem.run_bind, run_eqGuard_agg w .neq t xo yo xs ys hc.2, Result.andThen_ok, run_neq_struct, hrun]; rfl
  · cases h

theorem binP_sound {op : BinOp} {t : TypeId} {x y : AV} {K : AV → Prop} {xo yo : Operand} {u v : Value} (h : binP P op t x y K .mk) (hx : Rep I ρ hs x u) (hy : Rep I ρ hs y v) :
    Yields P I ρ hs w (do eqGuard op t xo yo u v; binOp op t u v) K := by
  unfold binP at h
  split at h
  · obtain rfl := rep_v hx
    obtain rfl := rep_v hy
    obtain ⟨r, z, h1, h2, h3⟩ := intBin2_sound (P := P) (I := I) (ρ := ρ) (hs := hs) (w := w) h t
    exact ⟨r, z, by simp [run_eqGuard_int, h1], h2, h3⟩
  · obtain rfl := rep_v hx
    obtain rfl := rep_v hy
    obtain ⟨r, z, h1, h2, h3⟩ := strBin_sound (P := P) (I := I) (ρ := ρ) (hs := hs) (w := w) h t
    exact ⟨r, z, by simp [run_eqGuard_str, h1], h2, h3⟩
  · obtain rfl := rep_v hx
    obtain rfl := rep_v hy
    obtain ⟨r, z, h1, h2, h3⟩ := boolBin_sound (P := P) (I := I) (ρ := ρ) (hs := hs) (w := w) h
    exact ⟨r, z, by simp [run_eqGuard_bool, h1], h2, h3⟩
  · rename_i fs gs
    cases hT : eqT P t with
    | none => rw [hT] at h; cases op <;> exact h.elim
    | some L =>
      rw [hT] at h
      cases hb : eqCs fs gs L with
      | none => cases op <;> simp only [aggBin, optP, hb] at h
      | some b =>
        obtain ⟨e1, e2⟩ := eqT_sound (w := w) hT hx hy hb xo yo
        cases op <;> simp only [aggBin, optP, hb] at h <;> try exact h.elim
        · exact .v e1 h
        · exact .v e2 h
  · exact h.elim

theorem unP_sound {op : UnOp} {x : AV} {K : AV → Prop} {u : Value} (h : unP op x K .mk) (hx : Rep I ρ hs x u) : Yields P I ρ hs w (Op.unary op u) K := by
  unfold unP at h
  split at h
  · obtain rfl := rep_v hx
    exact .v (by simp [Op.unary, Op.intArith]) h
  · obtain rfl := rep_v hx
    exact .v (by simp [Op.unary]) h
  · exact h.elim

theorem pickP_sound {c x y : AV} {K : AV → Prop} {u v z : Value} (h : pickP c x y K .mk) (hc : Rep I ρ hs c u) (hx : Rep I ρ hs x v) (hy : Rep I ρ hs y z) :
    Yields P I ρ hs w (do pure (if ← asBool u then v else z)) K := by
  unfold pickP at h
  split at h
  · rename_i b
    obtain rfl := rep_v hc
    cases b with
    | true => exact ⟨x, v, by simp [asBool], h.1 rfl, hx⟩
    | false => exact ⟨y, z, by simp [asBool], h.2 rfl, hy⟩
  · exact h.elim

theorem loadP_sound {base : Nat} {mem : Nat → Option (List AV)} {t : TypeId} {x : AV} {K : AV → Prop} {u : Value} (hh : Held I w) (hm : MemOk I ρ hs base mem w) (h : loadP P mem t x K .mk) (hx : Rep I ρ hs x u) : Yields P I ρ hs w (Instr.loadAt t u) K := by
  unfold loadP at h
  split at h
  · rename_i s off
    obtain rfl := rep_loc hx
    cases hms : mem s with
    | none => rw [hms] at h; exact h.elim
    | some cs =>
      rw [hms] at h
      obtain ⟨E, arr, hg, hn, hr⟩ := hm.row s cs hms
      obtain ⟨v, z, h1, h2, h3⟩ := loadCs_sound (P := P) (I := I) (ρ := ρ) (hs := hs) (w := w) (b := ρ s) (o := 0) (fun j => arr.getD j undef) (fun j hj => by
        have hj' : j < arr.size := by omega
        simp [World.cell?, hg, hj']) (fun j hj => by
        have hj' : j < arr.size := by omega
        have := (hr j hj hj').1
        simpa [Array.getD, hj'] using this) h
      rw [Nat.zero_add] at h1
      exact ⟨v, z, by simpa [Instr.loadAt, Instr.sureAddr] using h1, h2, h3⟩
  · rename_i cs
    cases rep_ep hx with
    | ep _ b off vals hI hr =>
      obtain ⟨v, z, h1, h2, h3⟩ := loadCs_sound (P := P) (I := I) (ρ := ρ) (hs := hs) (w := w) (b := b) (o := off) vals (fun j hj => (hh.cell _ _ _ (hI j hj)).1) (fun j hj => .stat (hr j hj)) h
      exact ⟨v, z, by simpa [Instr.loadAt, Instr.sureAddr] using h1, h2, h3⟩
  · exact h.elim

theorem fieldAP_sound {t : TypeId} {i : Nat} {x : AV} {K : AV → Prop} {u : Value} (h : fieldAP (fieldT P t i) x K .mk) (hx : Rep I ρ hs x u) : Yields P I ρ hs w (Instr.fieldAt t u i) K := by
  have step : ∀ off ft b o, fieldT P t i = some (off, ft) → (Instr.fieldAt t (.pointer (some ⟨b, o, none⟩)) i).run P w = .ok (.pointer (some ⟨b, o + off, none⟩)) w := by
    intro off ft b o hf
    obtain ⟨fs, f, inf, hu, hfi, ho, hft, hi, hne⟩ := fieldT_spec hf
    subst ho; subst hft
    have hne' : sizeT P f.type ≠ 0 := by unfold sizeT; rw [hi]; exact hne
    simp [Instr.fieldAt, run_underlying hu, hfi, Instr.sureAddr, fieldPlace, sizeT_run hi, hne', addr_add]
  unfold fieldAP at h
  split at h
  · rename_i off ft s o hf
    obtain rfl := rep_loc hx
    exact ⟨_, _, step off ft _ _ hf, h, .loc s (o + off)⟩
  · rename_i off ft cs hf
    cases rep_ep hx with
    | ep _ b o vals hI hr =>
      refine ⟨_, _, step off ft _ _ hf, h.2, .stat (.ep _ b (o + off) (fun j => vals (off + j)) (fun j hj => ?_) (fun j hj => ?_))⟩
      · simp at hj
        rw [Nat.add_assoc]; exact hI _ (by omega)
      · simp at hj ⊢
        exact hr _ (by omega)
  · exact h.elim

theorem indexAP_sound {t : TypeId} {x i : AV} {K : AV → Prop} {u ui : Value} (h : indexAP ((elemT P t).map (sizeT P)) x i K .mk) (hx : Rep I ρ hs x u) (hi : Rep I ρ hs i ui) : Yields P I ρ hs w (Instr.indexAt t u ui) K := by
  have step : ∀ e (b off len cap : Nat) (k : IntKind) (j : Int), elemT P t = some e → 0 ≤ j → j < len → (Instr.indexAt t (.slice (some ⟨b, off, none⟩) len cap) (.int k j)).run P w = .ok (.pointer (some ⟨b, off + j.toNat * sizeT P e, none⟩)) w := by
    intro e b off len cap k j he h0 hl
    obtain ⟨hu, inf, hinf⟩ := elemT_spec he
    simp [Instr.indexAt, asIntOf, run_underlying hu, h0, hl, sizeT_run hinf, addr_add]
  have fin : ∀ (z : Nat) (es : List AV) (j : Int) (k : IntKind) (e : TypeId) (y : Value), elemT P t = some e → RepS I (.sl z es) y → 0 ≤ j → j < es.length → z = sizeT P e → K (.ep (es.getD j.toNat .any).cells) → Yields P I ρ hs w (Instr.indexAt t y (.int k j)) K := by
    intro z es j k e y he r h0 hl hz k1
    have hlt : j.toNat < es.length := by omega
    cases r with
    | nil => simp at hl; omega
    | nila => simp at hl; omega
    | sl _ _ b off cap vals hsz hc hI hr =>
      have hg : es.getD j.toNat .any = es[j.toNat] := by simp [List.getD, hlt]
      rw [hg] at k1
      refine ⟨_, _, step e b off _ cap k j he h0 hl, k1, .stat ?_⟩
      rw [← hz]
      have hlen := hsz j.toNat hlt
      exact .ep _ b _ (vals j.toNat) (fun q hq => hI _ hlt q (by omega)) (fun q hq => hr _ hlt q hq)
  unfold indexAP at h
  split at h
  · rename_i z0 k j z es hz0
    obtain rfl := rep_v hi
    obtain ⟨e, he, hze⟩ := Option.map_eq_some_iff.1 hz0
    exact fin z es j k e u he (rep_sl hx) h.1.1 h.1.2.1 (h.1.2.2.trans hze.symm) h.2
  · rename_i z0 k j s z es hz0
    obtain rfl := rep_v hi
    obtain ⟨e, he, hze⟩ := Option.map_eq_some_iff.1 hz0
    exact fin z es j k e u he (rep_app hx).2 h.1.1 h.1.2.1 (h.1.2.2.trans hze.symm) h.2
  · rename_i z0 k j s z n hz0
    obtain rfl := rep_v hi
    obtain rfl := rep_own hx
    obtain ⟨e, he, hze⟩ := Option.map_eq_some_iff.1 hz0
    refine ⟨_, _, step e _ 0 n n k j he h.1.1 h.1.2.1, h.2, ?_⟩
    rw [Nat.zero_add, hze, ← h.1.2.2]
    exact .loc s _
  · exact h.elim

theorem lenP_sound {t : TypeId} {x : AV} {K : AV → Prop} {u : Value} (h : lenP P t x K .mk) (hx : Rep I ρ hs x u) {ts : List TypeId} (hts : ts.headD 0 = t) (hne : ts ≠ []) (ty : TypeId) : Yields P I ρ hs w (Builtin.len_ ts.toArray ty #[u]) K := by
  obtain ⟨t', r, rfl⟩ : ∃ t' r, ts = t' :: r := by cases ts with | nil => exact (hne rfl).elim | cons a b => exact ⟨a, b, rfl⟩
  obtain rfl : t' = t := hts
  have step : ∀ e (b : Option Addr) (n cap : Nat), elemT P t' = some e → (Builtin.len_ (t' :: r).toArray ty #[.slice b n cap]).run P w = .ok (.int .i64 n) w := by
    intro e b n cap he
    obtain ⟨hu, _⟩ := elemT_spec he
    simp [Builtin.len_, run_underlying hu, goInt]
  have fin : ∀ z es y, RepS I (.sl z es) y → (elemT P t').isSome = true → K (.i64 es.length) → Yields P I ρ hs w (Builtin.len_ (t' :: r).toArray ty #[y]) K := by
    intro z es y r' hs' k
    obtain ⟨e, he⟩ := Option.isSome_iff_exists.1 hs'
    cases r' with
    | nil => exact .v (step e none 0 0 he) k
    | nila _ a cap => exact .v (step e (some a) 0 cap he) k
    | sl _ _ b off cap vals hsz hc hI hr => exact .v (step e _ _ _ he) k
  unfold lenP at h
  split at h
  · exact fin _ _ _ (rep_sl hx) h.1 h.2
  · exact fin _ _ _ (rep_app hx).2 h.1 h.2
  · obtain rfl := rep_own hx
    obtain ⟨e, he⟩ := Option.isSome_iff_exists.1 h.1
    exact .v (step e _ _ _ he) h.2
  · obtain rfl := rep_v hx
    obtain ⟨e, he⟩ := Option.isSome_iff_exists.1 h.1
    exact .v (step e _ _ _ he) h.2
  · obtain rfl := rep_v hx
    have hu : P.underlying t' = some .string := by
      have h1 := h.1
      unfold stringT at h1
      cases hu : P.underlying t' with
      | none => simp [hu] at h1
      | some d => rw [hu] at h1; cases d <;> simp_all
    exact .v (by simp [Builtin.len_, run_underlying hu, goInt]) h.2
  · exact h.elim

theorem stringT_spec {t : TypeId} (h1 : stringT P t = true) : P.underlying t = some .string := by
  unfold stringT at h1
  cases hu : P.underlying t with
  | none => simp [hu] at h1
  | some d => rw [hu] at h1; cases d <;> simp_all

theorem fieldP_sound {t : TypeId} {i : Nat} {x : AV} {K : AV → Prop} {u : Value} (h : fieldP P (fieldT P t i) x K .mk) (hx : Rep I ρ hs x u) : Yields P I ρ hs w (Instr.field t u i) K := by
  unfold fieldP at h
  split at h
  · rename_i off ft fs hf
    obtain ⟨fs', f, inf, hu, hfi, ho, hft, hi, hne⟩ := fieldT_spec hf
    subst ho; subst hft
    obtain ⟨arr, rfl, hn, hr⟩ := rep_agg hx
    cases ha : aggT P f.type with
    | none => rw [ha] at h; exact h.elim
    | some g =>
      rw [ha] at h
      cases g with
      | true =>
        obtain ⟨hl, k⟩ := h
        refine ⟨_, .agg (arr.extract f.offset (f.offset + sizeT P f.type)), by simp [Instr.field, run_underlying hu, hfi, part, asAgg, aggT_isAgg ha, sizeT_run hi], k, .agg _ _ (by simp; omega) fun j hj hk => ?_⟩
        simp at hj hk ⊢
        exact hr _ (by omega) (by omega)
      | false =>
        obtain ⟨hl, k⟩ := h
        have hl' : f.offset < arr.size := by omega
        refine ⟨_, arr[f.offset], by simp [Instr.field, run_underlying hu, hfi, part, asAgg, aggT_isAgg ha, hl'], k, ?_⟩
        have : fs.getD f.offset .any = fs[f.offset] := by simp [List.getD, hl]
        rw [this]; exact hr _ hl hl'
  · exact h.elim

theorem strIndexP_sound {t : TypeId} {x i : AV} {K : AV → Prop} {u ui : Value} (h : strIndexP P t x i K .mk) (hx : Rep I ρ hs x u) (hi : Rep I ρ hs i ui) : Yields P I ρ hs w (Instr.index t u ui) K := by
  unfold strIndexP at h
  split at h
  · rename_i s k j
    obtain rfl := rep_v hx
    obtain rfl := rep_v hi
    obtain ⟨⟨hst, h0, hl⟩, k1⟩ := h
    have hlt : j.toNat < s.size := by omega
    have hb : s[j.toNat]? = some (s.data.toList.getD j.toNat 0) := by
      have hlt2 : j.toNat < s.data.size := hlt
      rw [getElem?_pos s j.toNat hlt]
      have e : s.data.toList.getD j.toNat 0 = s.data[j.toNat] := by rw [List.getD, List.getElem?_eq_getElem (by simpa using hlt2)]; simp
      rw [e]; rfl
    exact .v (by simp [Instr.index, asIntOf, run_underlying (stringT_spec hst), h0, hb]) k1
  · exact h.elim

theorem tupP_sound {x : AV} {i : Nat} {K : AV → Prop} {u : Value} (h : tupP x i K .mk) (hx : Rep I ρ hs x u) : Yields P I ρ hs w (Instr.extract u i) K := by
  unfold tupP at h
  split at h
  · rename_i fs
    obtain ⟨arr, rfl, hn, hr⟩ := rep_tup hx
    have hl' : i < arr.size := by have := h.1; omega
    refine ⟨_, arr[i], by simp [Instr.extract, hl'], h.2, ?_⟩
    have : fs.getD i .any = fs[i]'h.1 := by simp [List.getD, h.1]
    rw [this]; exact hr _ h.1 hl'
  · exact h.elim

theorem run_sliceBound (k : IntKind) (i : Int) (y : Nat) (c : BoundsCode) (h0 : 0 ≤ i) (h1 : i ≤ y) : (Instr.sliceBound (.int k i) y c).run P w = .ok i.toNat w := by
  unfold Instr.sliceBound
  simp only [asIntOf, Sem.run_bind, Sem.run_pure, Result.andThen_ok]
  rw [if_pos ⟨h0, h1⟩]; rfl

theorem sliceP_sound {t : TypeId} {x lo hi : AV} {K : AV → Prop} {u : Value} {lo' hi' : Option Value} (h : sliceP P t x lo hi K .mk) (hx : Rep I ρ hs x u)
    (hlo : (∃ v, lo' = some v ∧ Rep I ρ hs lo v) ∨ (lo' = none ∧ lo = .i64 0)) (hhi : (∃ v, hi' = some v ∧ Rep I ρ hs hi v) ∨ (hi' = none ∧ hi = x.lenV)) : Yields P I ρ hs w (Instr.slice t u lo' hi' none) K := by
  have sb : ∀ (isS : Bool) (len cap : Nat) (k k' : IntKind) (l r : Int), lo = .v (.int k l) → hi = .v (.int k' r) → (hi' = none → r = len) → 0 ≤ l → l ≤ r → r ≤ len → len ≤ cap → (Instr.sliceBounds isS len cap lo' hi' none).run P w = .ok (l.toNat, r.toNat, cap) w := by
    intro isS len cap k k' l r e1 e2 e3 h0 h1 h2 h3
    have hr : (match hi' with | some v => Instr.sliceBound v cap (if isS then .sliceAcap else .sliceAlen) | none => pure len).run P w = .ok r.toNat w := by
      rcases hhi with ⟨v, rfl, hv⟩ | ⟨rfl, _⟩
      · rw [e2] at hv
        obtain rfl := rep_v hv
        have q0 : 0 ≤ r := by omega
        have q1 : r ≤ cap := by omega
        exact run_sliceBound _ _ _ _ q0 q1
      · have := e3 rfl
        simp; omega
    have hl : (match lo' with | some v => Instr.sliceBound v r.toNat .sliceB | none => pure 0).run P w = .ok l.toNat w := by
      rcases hlo with ⟨v, rfl, hv⟩ | ⟨rfl, e⟩
      · rw [e1] at hv
        obtain rfl := rep_v hv
        have q1 : l ≤ (r.toNat : Int) := by omega
        exact run_sliceBound _ _ _ _ h0 q1
      · rw [e1] at e
        injection e with e
        injection e with _ e
        simp [e]
    unfold Instr.sliceBounds
    cases hi' with
    | none =>
      cases lo' with
      | none => simp at hr hl ⊢; exact ⟨hl, hr⟩
      | some v => simp at hr hl ⊢; simp [hr, hl]
    | some v' =>
      cases lo' with
      | none => simp at hr hl ⊢; simp [hr, hl]
      | some v => simp at hr hl ⊢; simp [hr, hl]
  have fin : ∀ z es k k' l r y, lo = .v (.int k l) → hi = .v (.int k' r) → (hi' = none → r = es.length) → RepS I (.sl z es) y → (elemT P t).map (sizeT P) = some z → 0 ≤ l → l ≤ r → r ≤ es.length → K (.sl z ((es.take r.toNat).drop l.toNat)) → Yields P I ρ hs w (Instr.slice t y lo' hi' none) K := by
    intro z es k k' l r y e1 e2 e3 hy hz h0 h1 h2 k1
    obtain ⟨e, he, hze⟩ := Option.map_eq_some_iff.1 hz
    obtain ⟨hu, inf, hinf⟩ := elemT_spec he
    cases hy with
    | nil =>
      have hl0 : l = 0 := by simp at h2; omega
      have hr0 : r = 0 := by simp at h2; omega
      subst hl0; subst hr0
      have := sb true 0 0 k k' 0 0 e1 e2 (by intro q; exact e3 q) (by omega) (by omega) (by omega) (by omega)
      refine ⟨_, .slice none 0 0, by simp [Instr.slice, run_underlying hu, this, sizeT_run hinf], k1, .stat ?_⟩
      simp
      exact .nil z
    | nila _ a cap =>
      have hl0 : l = 0 := by simp at h2; omega
      have hr0 : r = 0 := by simp at h2; omega
      subst hl0; subst hr0
      have := sb true 0 cap k k' 0 0 e1 e2 (by intro q; exact e3 q) (by omega) (by omega) (by omega) (by omega)
      refine ⟨_, .slice (some a) 0 cap, ?_, k1, .stat ?_⟩
      · simp [Instr.slice, run_underlying hu, this, sizeT_run hinf]
        by_cases hc : cap = 0 <;> simp [hc, Addr.add]
      · simp
        exact .nila z a cap
    | sl _ _ b off cap vals hsz hc hI hr =>
      have := sb true es.length cap k k' l r e1 e2 e3 h0 h1 h2 hc
      by_cases hcl : cap = l.toNat
      · have hlr : l.toNat = r.toNat := by omega
        refine ⟨_, .slice (some ⟨b, off, none⟩) (r.toNat - l.toNat) (cap - l.toNat), by simp [Instr.slice, run_underlying hu, this, sizeT_run hinf]; simp [hcl], k1, .stat ?_⟩
        have hnil : (es.take r.toNat).drop l.toNat = [] := by simp; omega
        rw [hnil]
        have e4 : r.toNat - l.toNat = 0 := by omega
        rw [e4]
        exact .sl z [] b off (cap - l.toNat) vals (fun i hi => by cases hi) (Nat.zero_le _) (fun i hi => by cases hi) (fun i hi => by cases hi)
      · refine ⟨_, .slice (some ⟨b, off + l.toNat * z, none⟩) (r.toNat - l.toNat) (cap - l.toNat), by simp [Instr.slice, run_underlying hu, this, sizeT_run hinf, hcl, addr_add, hze], k1, .stat ?_⟩
        have hlen : r.toNat - l.toNat = ((es.take r.toNat).drop l.toNat).length := by simp; omega
        rw [hlen]
        refine .sl z _ b (off + l.toNat * z) (cap - l.toNat) (fun i j => vals (l.toNat + i) j) (fun i hi => ?_) ?_ (fun i hi j hj => ?_) (fun i hi j hj => ?_)
        · simp at hi ⊢
          exact hsz _ (by omega)
        · simp; omega
        · simp at hi
          have hq := hI (l.toNat + i) (by omega) j hj
          have e5 : off + l.toNat * z + i * z + j = off + (l.toNat + i) * z + j := by rw [Nat.add_mul]; omega
          rw [e5]; exact hq
        · simp at hi hj ⊢
          exact hr _ (by omega) _ _
  unfold sliceP at h
  split at h
  · rename_i s k l k' r
    obtain rfl := rep_v hx
    obtain ⟨⟨hst, h0, h1, h2⟩, k1⟩ := h
    have hr3 : hi' = none → r = s.size := by
      intro q
      rcases hhi with ⟨v, e, _⟩ | ⟨_, e⟩
      · rw [q] at e; cases e
      · simp only [AV.lenV] at e
        injection e with e
        injection e with _ e
    have := sb false s.size s.size k k' l r rfl rfl hr3 h0 h1 h2 (Nat.le_refl _)
    exact .v (by simp [Instr.slice, run_underlying (stringT_spec hst), this]) k1
  · rename_i z es k l k' r
    obtain ⟨⟨hz, h0, h1, h2⟩, k1⟩ := h
    refine fin z es k k' l r u rfl rfl ?_ (rep_sl hx) hz h0 h1 h2 k1
    intro q
    rcases hhi with ⟨v, e, _⟩ | ⟨_, e⟩
    · rw [q] at e; cases e
    · simp only [AV.lenV] at e
      injection e with e
      injection e with _ e
  · rename_i s z es k l k' r
    obtain ⟨⟨hz, h0, h1, h2⟩, k1⟩ := h
    refine fin z es k k' l r u rfl rfl ?_ (rep_app hx).2 hz h0 h1 h2 k1
    intro q
    rcases hhi with ⟨v, e, _⟩ | ⟨_, e⟩
    · rw [q] at e; cases e
    · simp only [AV.lenV] at e
      injection e with e
      injection e with _ e
  · exact h.elim
end
end Go.AM
namespace Go.AM
open Go.RowKit (Below)

section
variable {P : Program} {I : Gh} {ρ : Nat → Nat} {hs : Nat → Nat → Value} {w : World}

theorem stat1_spec {a b : AV} {x : Value} (h : a.stat1 = some b) (r : Rep I ρ hs a x) : RepS I b x := by
  unfold AV.stat1 at h
  split at h
  · cases h; obtain rfl := rep_v r; exact .v _
  · cases h; exact rep_sl r
  · cases h; exact (rep_app r).2
  · cases h; exact rep_ep r
  · cases h
    obtain ⟨arr, rfl, hn, hr⟩ := rep_fn r
    exact .fn _ [] arr hn (fun j hj => by cases hj)
  · cases h

theorem stats_spec : ∀ {as bs : List AV} {vals : Nat → Value}, AV.stats as = some bs → (∀ j (hj : j < as.length), Rep I ρ hs (as[j]) (vals j)) → bs.length = as.length ∧ ∀ j (hj : j < bs.length), RepS I (bs[j]) (vals j)
  | [], bs, vals, h, _ => by simp [AV.stats] at h; subst h; exact ⟨rfl, fun j hj => by cases hj⟩
  | a :: r, bs, vals, h, hr => by
    simp only [AV.stats] at h
    cases h1 : a.stat1 with
    | none => simp [h1] at h
    | some x =>
      cases h2 : AV.stats r with
      | none => simp [h1, h2] at h
      | some y =>
        simp only [h1, h2, Option.some.injEq] at h
        subst h
        obtain ⟨hl, hq⟩ := stats_spec (vals := fun j => vals (j + 1)) h2 (fun j hj => by have := hr (j + 1) (by simp; omega); simpa using this)
        refine ⟨by simp [hl], fun j hj => ?_⟩
        cases j with
        | zero => exact stat1_spec h1 (hr 0 (by simp))
        | succ j => exact hq j (by simp at hj; omega)

theorem RepS.flat1 {I' : Gh} {a : AV} {x : Value} (h : RepS I a x) (f : a.flat1 = true) : RepS I' a x := by
  cases h <;> first | exact .v _ | (simp [AV.flat1] at f)
theorem RepS.flat {I' : Gh} {a : AV} {x : Value} (h : RepS I a x) (f : a.flat = true) : RepS I' a x := by
  cases h with
  | v x => exact .v x
  | agg fs arr hn hr =>
    simp only [AV.flat, List.all_eq_true] at f
    exact .agg fs arr hn fun j hj hk => (hr j hj hk).flat1 (f _ (List.getElem_mem hj))
  | tup fs arr hn hr =>
    simp only [AV.flat, List.all_eq_true] at f
    exact .tup fs arr hn fun j hj hk => (hr j hj hk).flat1 (f _ (List.getElem_mem hj))
  | nil => simp [AV.flat] at f
  | nila => simp [AV.flat] at f
  | sl => simp [AV.flat] at f
  | ep => simp [AV.flat] at f
  | fn => simp [AV.flat] at f

/-- the ghost with the call's own blocks beside it: what a callee may look at -/
noncomputable def lend (I : Gh) (ρ : Nat → Nat) (mem : Nat → Option (List AV)) (w : World) : Gh := fun b o =>
  open Classical in if ∃ s cs, mem s = some cs ∧ ρ s = b then w.cell? ⟨b, o, none⟩ else I b o

theorem lend_le {base : Nat} {mem : Nat → Option (List AV)} (hm : MemOk I ρ hs base mem w) : ∀ b o x, I b o = some x → lend I ρ mem w b o = some x := by
  intro b o x h
  unfold lend
  split
  · rename_i hb
    obtain ⟨s, cs, h1, rfl⟩ := hb
    rw [hm.free s cs h1 o] at h; cases h
  · exact h

theorem mem_cell {base : Nat} {mem : Nat → Option (List AV)} (hm : MemOk I ρ hs base mem w) {s : Nat} {cs : List AV} (h : mem s = some cs) : ∃ vals : Nat → Value, (∀ j, j < cs.length → w.cell? ⟨ρ s, j, none⟩ = some (vals j)) ∧ (∀ j (hj : j < cs.length), Rep I ρ hs (cs[j]) (vals j)) ∧ (∀ j x, w.cell? ⟨ρ s, j, none⟩ = some x → j < cs.length ∧ x = vals j ∧ x.oneCell' = true) := by
  obtain ⟨E, arr, hg, hn, hr⟩ := hm.row s cs h
  refine ⟨fun j => arr.getD j undef, fun j hj => ?_, fun j hj => ?_, fun j x hx => ?_⟩
  · have hj' : j < arr.size := by omega
    simp [World.cell?, hg, hj']
  · have hj' : j < arr.size := by omega
    simpa [Array.getD, hj'] using (hr j hj hj').1
  · simp only [World.cell?, hg] at hx
    simp at hx
    obtain ⟨hlt, rfl⟩ := Array.getElem?_eq_some_iff.1 hx
    exact ⟨by omega, by simp [Array.getD, hlt], (hr j (by omega) hlt).2⟩

theorem lend_held {base : Nat} {mem : Nat → Option (List AV)} (hh : Held I w) (hm : MemOk I ρ hs base mem w) : Held (lend I ρ mem w) w := by
  refine ⟨fun b o x h => ?_⟩
  unfold lend at h
  split at h
  · rename_i hb
    obtain ⟨s, cs, h1, rfl⟩ := hb
    obtain ⟨vals, _, _, h4⟩ := mem_cell hm h1
    exact ⟨h, (h4 o x h).2.2⟩
  · exact hh.cell b o x h

theorem lend_cell {base : Nat} {mem : Nat → Option (List AV)} {s : Nat} {cs : List AV} (h : mem s = some cs) (o : Nat) : lend I ρ mem w (ρ s) o = w.cell? ⟨ρ s, o, none⟩ := by
  unfold lend; rw [if_pos ⟨s, cs, h, rfl⟩]

theorem view1_spec {base : Nat} {mem : Nat → Option (List AV)} (hm : MemOk I ρ hs base mem w) {a b : AV} {l : Bool} {x : Value} (h : a.view1 mem = some (b, l)) (r : Rep I ρ hs a x) : RepS (lend I ρ mem w) b x ∧ (l = false → RepS I b x) := by
  unfold AV.view1 at h
  split at h
  · rename_i s z n
    obtain rfl := rep_own r
    cases h1 : mem s with
    | none => simp [h1] at h
    | some cs =>
      simp only [h1] at h
      cases h2 : AV.stats cs with
      | none => simp [h2] at h
      | some ls =>
        simp only [h2] at h
        have noagg : ∀ (cs bs : List AV), AV.stats cs = some bs → ∀ y ∈ bs, ∀ fs, y ≠ .agg fs := by
          intro cs
          induction cs with
          | nil => intro bs hb y hy; simp [AV.stats] at hb; subst hb; cases hy
          | cons a r ih =>
            intro bs hb y hy fs
            simp only [AV.stats] at hb
            cases g1 : a.stat1 with
            | none => simp [g1] at hb
            | some a' =>
              cases g2 : AV.stats r with
              | none => simp [g1, g2] at hb
              | some r' =>
                simp only [g1, g2, Option.some.injEq] at hb
                subst hb
                cases List.mem_cons.1 hy with
                | inl e => subst e; intro e; subst e; unfold AV.stat1 at g1; split at g1 <;> simp at g1
                | inr e => exact ih _ g2 y e fs
        obtain ⟨vals, c1, c2, c3⟩ := mem_cell hm h1
        obtain ⟨e1, e2⟩ := stats_spec h2 c2
        split at h
        · rename_i hz
          simp only [Option.some.injEq, Prod.mk.injEq] at h
          obtain ⟨rfl, rfl⟩ := h
          refine ⟨?_, fun q => by cases q⟩
          have hc : ∀ i (hi : i < ls.length), (ls[i]).cells = [ls[i]] := fun i hi => by
            cases hq : ls[i] with
            | agg fs => exact (noagg cs ls h2 _ (List.getElem_mem hi) fs hq).elim
            | _ => rfl
          have := RepS.sl (I := lend I ρ mem w) 1 ls (ρ s) 0 n (fun i _ => vals i) (fun i hi => by rw [hc i hi]; rfl) (by omega)
            (fun i hi j hj => by
              have : j = 0 := by omega
              subst this
              rw [Nat.zero_add, Nat.mul_one, Nat.add_zero, lend_cell (base := base) h1]; exact c1 i (by omega))
            (fun i hi j hj => by
              have hci := hc i hi
              have : (ls[i]).cells[j] = ls[i] := by
                have hj0 : j = 0 := by rw [hci] at hj; simpa using hj
                subst hj0
                simp [hci]
              rw [this]; exact (e2 i hi).mono (lend_le hm))
          rw [hz.2] at this
          exact this
        · split at h
          · rename_i hz
            simp only [Option.some.injEq, Prod.mk.injEq] at h
            obtain ⟨rfl, rfl⟩ := h
            refine ⟨?_, fun q => by cases q⟩
            have hlen : ∀ i j, i < n → j < z → i * z + j < ls.length := fun i j hi hj => by
              rw [hz.2]
              calc i * z + j < i * z + z := by omega
                _ = (i + 1) * z := by rw [Nat.add_mul, Nat.one_mul]
                _ ≤ n * z := Nat.mul_le_mul_right _ hi
            have hcl : ∀ i (hi : i < (chunk z n ls).length), ((chunk z n ls)[i]).cells = (ls.drop (i * z)).take z := fun i hi => by rw [chunk_get]; rfl
            have hcz : ∀ i (hi : i < (chunk z n ls).length), ((chunk z n ls)[i]).cells.length = z := fun i hi => by
              rw [hcl, List.length_take, List.length_drop]
              have hi' : i < n := by rw [chunk_len] at hi; exact hi
              have := hlen i (z - 1) hi' (by omega)
              omega
            have := RepS.sl (I := lend I ρ mem w) z (chunk z n ls) (ρ s) 0 n (fun i j => vals (i * z + j)) hcz (by rw [chunk_len]; exact Nat.le_refl _)
              (fun i hi j hj => by
                rw [chunk_len] at hi
                rw [Nat.zero_add, lend_cell (base := base) h1]; exact c1 _ (by have := hlen i j hi hj; omega))
              (fun i hi j hj => by
                have hj' : j < z := by rw [← hcz i hi]; exact hj
                have hi' : i < n := by rw [chunk_len] at hi; exact hi
                have hl := hlen i j hi' hj'
                have : ((chunk z n ls)[i]).cells[j] = ls[i * z + j] := by
                  simp only [hcl, List.getElem_take, List.getElem_drop]
                rw [this]; exact (e2 _ hl).mono (lend_le hm))
            rw [chunk_len] at this
            exact this
          · cases h
  · rename_i s
    obtain rfl := rep_loc r
    cases h1 : mem s with
    | none => simp [h1] at h
    | some cs =>
      simp only [h1] at h
      cases h2 : AV.stats cs with
      | none => simp [h2] at h
      | some ls =>
        simp only [h2, Option.some.injEq, Prod.mk.injEq] at h
        obtain ⟨rfl, rfl⟩ := h
        refine ⟨?_, fun q => by cases q⟩
        obtain ⟨vals, c1, c2, c3⟩ := mem_cell hm h1
        obtain ⟨e1, e2⟩ := stats_spec h2 c2
        exact .ep _ _ _ vals (fun j hj => by rw [Nat.zero_add, lend_cell (base := base) h1]; exact c1 j (by omega)) (fun j hj => (e2 j hj).mono (lend_le hm))
  · cases h1 : a.stat1 with
    | none => simp [h1] at h
    | some y =>
      simp only [h1, Option.some.injEq, Prod.mk.injEq] at h
      obtain ⟨rfl, rfl⟩ := h
      have := stat1_spec h1 r
      exact ⟨this.mono (lend_le hm), fun _ => this⟩

theorem views_spec {base : Nat} {mem : Nat → Option (List AV)} (hm : MemOk I ρ hs base mem w) : ∀ {as bs : List AV} {l : Bool} {vals : Nat → Value}, AV.views mem as = some (bs, l) → (∀ j (hj : j < as.length), Rep I ρ hs (as[j]) (vals j)) →
    bs.length = as.length ∧ (∀ j (hj : j < bs.length), RepS (lend I ρ mem w) (bs[j]) (vals j)) ∧ (l = false → ∀ j (hj : j < bs.length), RepS I (bs[j]) (vals j))
  | [], bs, l, vals, h, _ => by simp [AV.views] at h; obtain ⟨rfl, rfl⟩ := h; exact ⟨rfl, (fun j hj => by cases hj), (fun _ j hj => by cases hj)⟩
  | a :: r, bs, l, vals, h, hr => by
    simp only [AV.views] at h
    cases h1 : a.view1 mem with
    | none => simp [h1] at h
    | some x =>
      obtain ⟨x, b⟩ := x
      cases h2 : AV.views mem r with
      | none => simp [h1, h2] at h
      | some y =>
        obtain ⟨y, c⟩ := y
        simp only [h1, h2, Option.some.injEq, Prod.mk.injEq] at h
        obtain ⟨rfl, rfl⟩ := h
        obtain ⟨hl, hq, hq'⟩ := views_spec hm (vals := fun j => vals (j + 1)) h2 (fun j hj => by have := hr (j + 1) (by simp; omega); simpa using this)
        have h0 := view1_spec hm h1 (hr 0 (by simp))
        refine ⟨by simp [hl], fun j hj => ?_, fun hf j hj => ?_⟩
        · cases j with
          | zero => exact h0.1
          | succ j => exact hq j (by simp at hj; omega)
        · simp at hf
          cases j with
          | zero => exact h0.2 hf.1
          | succ j => exact hq' hf.2 j (by simp at hj; omega)

theorem view_spec {base : Nat} {mem : Nat → Option (List AV)} (hm : MemOk I ρ hs base mem w) {a b : AV} {l : Bool} {x : Value} (h : a.view mem = some (b, l)) (r : Rep I ρ hs a x) : RepS (lend I ρ mem w) b x ∧ (l = false → RepS I b x) := by
  unfold AV.view at h
  split at h
  · rename_i fs
    obtain ⟨arr, rfl, hn, hr⟩ := rep_agg r
    cases h1 : AV.views mem fs with
    | none => simp [h1] at h
    | some y =>
      obtain ⟨y, c⟩ := y
      simp only [h1, Option.some.injEq, Prod.mk.injEq] at h
      obtain ⟨rfl, rfl⟩ := h
      obtain ⟨hl, hq, hq'⟩ := views_spec hm (vals := fun j => arr.getD j undef) h1 (fun j hj => by
        have hk : j < arr.size := by omega
        simpa [Array.getD, hk] using hr j hj hk)
      refine ⟨.agg _ _ (by omega) fun j hj hk => ?_, fun hf => .agg _ _ (by omega) fun j hj hk => ?_⟩
      · simpa [Array.getD, hk] using hq j hj
      · simpa [Array.getD, hk] using hq' hf j hj
  · rename_i f caps
    obtain ⟨arr, rfl, hn, hr⟩ := rep_fn r
    cases h1 : AV.views mem caps with
    | none => simp [h1] at h
    | some y =>
      obtain ⟨y, c⟩ := y
      simp only [h1, Option.some.injEq, Prod.mk.injEq] at h
      obtain ⟨rfl, rfl⟩ := h
      obtain ⟨hl, hq, hq'⟩ := views_spec hm (vals := fun j => arr.getD j undef) h1 (fun j hj => by
        have hk : j < arr.size := by omega
        simpa [Array.getD, hk] using hr j hj hk)
      refine ⟨.fn _ _ _ (by omega) fun j hj hk => ?_, fun hf => .fn _ _ _ (by omega) fun j hj hk => ?_⟩
      · simpa [Array.getD, hk] using hq j hj
      · simpa [Array.getD, hk] using hq' hf j hj
  · exact view1_spec hm h r

theorem viewAll_spec {base : Nat} {mem : Nat → Option (List AV)} (hm : MemOk I ρ hs base mem w) : ∀ {as bs : List AV} {l : Bool} {vals : Nat → Value}, AV.viewAll mem as = some (bs, l) → (∀ j (hj : j < as.length), Rep I ρ hs (as[j]) (vals j)) →
    bs.length = as.length ∧ (∀ j (hj : j < bs.length), RepS (lend I ρ mem w) (bs[j]) (vals j)) ∧ (l = false → ∀ j (hj : j < bs.length), RepS I (bs[j]) (vals j))
  | [], bs, l, vals, h, _ => by simp [AV.viewAll] at h; obtain ⟨rfl, rfl⟩ := h; exact ⟨rfl, (fun j hj => by cases hj), (fun _ j hj => by cases hj)⟩
  | a :: r, bs, l, vals, h, hr => by
    simp only [AV.viewAll] at h
    cases h1 : a.view mem with
    | none => simp [h1] at h
    | some x =>
      obtain ⟨x, b⟩ := x
      cases h2 : AV.viewAll mem r with
      | none => simp [h1, h2] at h
      | some y =>
        obtain ⟨y, c⟩ := y
        simp only [h1, h2, Option.some.injEq, Prod.mk.injEq] at h
        obtain ⟨rfl, rfl⟩ := h
        obtain ⟨hl, hq, hq'⟩ := viewAll_spec hm (vals := fun j => vals (j + 1)) h2 (fun j hj => by have := hr (j + 1) (by simp; omega); simpa using this)
        have h0 := view_spec hm h1 (hr 0 (by simp))
        refine ⟨by simp [hl], fun j hj => ?_, fun hf j hj => ?_⟩
        · cases j with
          | zero => exact h0.1
          | succ j => exact hq j (by simp at hj; omega)
        · simp at hf
          cases j with
          | zero => exact h0.2 hf.1
          | succ j => exact hq' hf.2 j (by simp at hj; omega)

/-- a call by its contract -/
theorem callVP_sound {base : Nat} {mem : Nat → Option (List AV)} (hh : Held I w) (hm : MemOk I ρ hs base mem w) {f : FuncId} {args : List AV} {vals : Array Value} {K : AV → Prop}
    (h : callVP P f (AV.viewAll mem args) K .mk) (hn : vals.size = args.length) (hr : ∀ j (hj : j < args.length) (hk : j < vals.size), Rep I ρ hs (args[j]) (vals[j])) :
    HasBody P f ∧ Calls P f vals w fun e w' => ∃ v x I', e = .returned x ∧ K v ∧ RepS I' v x ∧ Grow I w I' w' := by
  cases hv : AV.viewAll mem args with
  | none => rw [hv] at h; exact h.elim
  | some y =>
    obtain ⟨as, l⟩ := y
    rw [hv] at h
    obtain ⟨hl, hq, hq'⟩ := viewAll_spec hm (vals := fun j => vals.getD j undef) hv (fun j hj => by
      have hk : j < vals.size := by omega
      simpa [Array.getD, hk] using hr j hj hk)
    cases l with
    | false =>
      obtain ⟨r, hspec, k⟩ := h
      refine ⟨hspec.1, (hspec.2.2 I w vals hh (by omega) fun j hj hk => ?_).mono ?_⟩
      · simpa [Array.getD, hk] using hq' rfl j hj
      · rintro e w' ⟨I', x, rfl, hx, hg⟩
        exact ⟨r, x, I', rfl, k, hx, hg⟩
    | true =>
      obtain ⟨r, hspec, hflat, k⟩ := h
      refine ⟨hspec.1, (hspec.2.2 (lend I ρ mem w) w vals (lend_held hh hm) (by omega) fun j hj hk => ?_).mono ?_⟩
      · simpa [Array.getD, hk] using hq j hj
      · rintro e w' ⟨I', x, rfl, hx, hg⟩
        have hIw : Held I w' := ⟨fun b o y hy => by
          have hlt := hh.lt hy
          have hb := hg.below.block b hlt
          have := hh.cell b o y hy
          exact ⟨(World.cell?_of_block (w := w) (a := ⟨b, o, none⟩) hb).trans this.1, this.2⟩⟩
        exact ⟨r, x, I, rfl, k, hx.flat hflat, ⟨hIw, hg.below, fun _ _ _ => rfl⟩⟩

theorem calleeP_sound {base : Nat} {mem : Nat → Option (List AV)} (hh : Held I w) (hm : MemOk I ρ hs base mem w) {x : AV} {args : List AV} {vals : Array Value} {K : AV → Prop} {u : Value}
    (h : calleeP P mem x args K .mk) (hx : Rep I ρ hs x u) (hn : vals.size = args.length) (hr : ∀ j (hj : j < args.length) (hk : j < vals.size), Rep I ρ hs (args[j]) (vals[j])) :
    ∃ f vs, (do let d ← Deferred.ofValue u vals; invoke d.target d.args : Sem Next).run P w = .ok (.enter f vs) w ∧ Calls P f vs w fun e w' => ∃ v x I', e = .returned x ∧ K v ∧ RepS I' v x ∧ Grow I w I' w' := by
  unfold calleeP at h
  split at h
  · rename_i f caps
    obtain ⟨arr, rfl, hcn, hcr⟩ := rep_fn hx
    have key := callVP_sound hh hm (vals := vals ++ arr) h (by simp [hn, hcn]) (fun j hj hk => ?_)
    · obtain ⟨⟨fn, c, hf, hb, hname⟩, hcall⟩ := key
      refine ⟨f, vals ++ arr, ?_, hcall⟩
      simp [Deferred.ofValue, invoke, callFunc, hf, hb, hname]
    · by_cases hjl : j < args.length
      · have e1 : (args ++ caps)[j] = args[j] := List.getElem_append_left hjl
        have e2 : (vals ++ arr)[j] = vals[j]'(by omega) := Array.getElem_append_left (by omega)
        rw [e1, e2]; exact hr j hjl (by omega)
      · have hj2 : j - args.length < caps.length := by simp at hj; omega
        have e1 : (args ++ caps)[j] = caps[j - args.length] := List.getElem_append_right (by omega)
        have e2 : (vals ++ arr)[j] = arr[j - vals.size]'(by omega) := Array.getElem_append_right (by omega)
        rw [e1, e2]
        have e3 : j - vals.size = j - args.length := by omega
        simp only [e3]
        exact hcr _ hj2 (by omega)
  · exact h.elim
end
end Go.AM
namespace Go.AM
open Go.RowKit (Below)

section
variable {P : Program} {I : Gh} {ρ : Nat → Nat} {hs : Nat → Nat → Value} {w : World}

theorem rep_cells {a : AV} {x : Value} (r : Rep I ρ hs a x) (k : knownCells a = true) : x.cells.size = a.cells.length ∧ ∀ j (hj : j < a.cells.length) (hk : j < x.cells.size), Rep I ρ hs (a.cells[j]) (x.cells[j]) ∧ (x.cells[j]).oneCell' = true := by
  have atom : ∀ {a : AV} {x : Value}, Rep I ρ hs a x → oneC a = true → x.oneCell' = true := by
    intro a x r k
    cases r with
    | any x => simp [oneC] at k
    | stat h =>
      cases h with
      | v x => cases x <;> simp [oneC, Value.oneCell'] at k ⊢
      | nil => rfl
      | nila => rfl
      | sl => rfl
      | agg => simp [oneC] at k
      | tup => simp [oneC] at k
      | ep => rfl
      | fn => rfl
    | loc => rfl
    | own => rfl
    | app s z es x h r => cases r <;> rfl
    | agg => simp [oneC] at k
    | tup => simp [oneC] at k
    | fn => rfl
  have single : ∀ {a : AV} {x : Value}, Rep I ρ hs a x → oneC a = true → a.cells = [a] → x.cells.size = a.cells.length ∧ ∀ j (hj : j < a.cells.length) (hk : j < x.cells.size), Rep I ρ hs (a.cells[j]) (x.cells[j]) ∧ (x.cells[j]).oneCell' = true := by
    intro a x r k hc
    have h1 := atom r k
    have hx : x.cells = #[x] := by cases x <;> simp [Value.cells, Value.oneCell'] at h1 ⊢
    refine ⟨by rw [hx, hc]; rfl, fun j hj hk => ?_⟩
    have hj0 : j = 0 := by rw [hc] at hj; simpa using hj
    subst hj0
    simp only [hx, hc]
    exact ⟨r, h1⟩
  cases a with
  | agg fs =>
    obtain ⟨arr, rfl, hn, hr⟩ := rep_agg r
    simp only [knownCells, List.all_eq_true] at k
    exact ⟨hn, fun j hj hk => ⟨hr j hj hk, atom (hr j hj hk) (k _ (List.getElem_mem hj))⟩⟩
  | any => simp [knownCells, oneC] at k
  | tup => simp [knownCells, oneC] at k
  | v x => exact single r k rfl
  | sl => exact single r k rfl
  | ep => exact single r k rfl
  | loc => exact single r k rfl
  | own => exact single r k rfl
  | app => exact single r k rfl
  | fn => exact single r k rfl

/-- cells laid into a row: 'fill''s inner round -/
theorem foldl_set (off : Nat) : ∀ (vs : List Value) (i : Nat) (cells : Array Value), off + i + vs.length ≤ cells.size →
    ((vs.zipIdx i).foldl (fun cs (c, j) => cs.setIfInBounds (off + j) c) cells).toList = cells.toList.take (off + i) ++ vs ++ cells.toList.drop (off + i + vs.length)
  | [], i, cells, _ => by simp
  | v :: r, i, cells, h => by
    simp at h
    simp only [List.zipIdx_cons, List.foldl_cons]
    rw [foldl_set off r (i + 1) _ (by simp; omega)]
    have e := list_seg_step cells.toList (off + i) v r (by simp; omega)
    simpa [Array.toList_setIfInBounds, Nat.add_assoc] using e

theorem splice_get {α : Type} (a b : List α) (off n j : Nat) (hb : b.length = n) (ho : off + n ≤ a.length) : (a.take off ++ b ++ a.drop (off + n))[j]? = if j < off then a[j]? else if j < off + n then b[j - off]? else a[j]? := by
  have hl : (a.take off).length = off := by simp; omega
  by_cases h1 : j < off
  · rw [if_pos h1, List.getElem?_append_left (by simp; omega), List.getElem?_append_left (by omega), List.getElem?_take_of_lt h1]
  · by_cases h2 : j < off + n
    · rw [if_neg h1, if_pos h2, List.getElem?_append_left (by simp; omega), List.getElem?_append_right (by omega), hl]
    · rw [if_neg h1, if_neg h2, List.getElem?_append_right (by simp; omega), List.getElem?_drop]
      congr 1
      simp; omega

/-- a struct out of its parts -/
theorem fill_sound {t : TypeId} {fs : Array Field} (hu : P.underlying t = some (.struct fs)) : ∀ (ps : List (Nat × AV)) (qs : List (Nat × Value)) (cs out : List AV) (cells : Array Value), buildCs P t cs ps = some out → ps.length = qs.length →
    (∀ j (hj : j < ps.length) (hk : j < qs.length), (ps[j]).1 = (qs[j]).1 ∧ Rep I ρ hs (ps[j]).2 (qs[j]).2) → cells.size = cs.length → (∀ j (hj : j < cs.length) (hk : j < cells.size), Rep I ρ hs (cs[j]) (cells[j])) →
    ∃ arr, Instr.fill ((fs.map fun f => (f.offset, sizeT P f.type))[·]?) cells qs = some arr ∧ arr.size = out.length ∧ ∀ j (hj : j < out.length) (hk : j < arr.size), Rep I ρ hs (out[j]) (arr[j])
  | [], qs, cs, out, cells, h, hl, _, hn, hr => by
    cases qs with
    | nil => simp [buildCs] at h; subst h; exact ⟨cells, by simp [Instr.fill], hn, hr⟩
    | cons a b => simp at hl
  | (i, x) :: ps, qs, cs, out, cells, h, hl, hp, hn, hr => by
    cases qs with
    | nil => simp at hl
    | cons q qs =>
      obtain ⟨i', v⟩ := q
      have h0 := hp 0 (by simp) (by simp)
      simp at h0
      obtain ⟨rfl, hv⟩ := h0
      simp only [buildCs] at h
      cases hf : fieldT P t i with
      | none => simp [hf] at h
      | some y =>
        obtain ⟨off, ft⟩ := y
        simp only [hf] at h
        split at h
        · rename_i hc
          obtain ⟨hc1, hc2, hc3⟩ := hc
          obtain ⟨fs', f, inf, hu', hfi, ho, hft, hi, hne⟩ := fieldT_spec hf
          rw [hu] at hu'
          cases hu'
          subst ho; subst hft
          obtain ⟨r1, r2⟩ := rep_cells hv hc3
          have hplace : (fs.map fun f => (f.offset, sizeT P f.type))[i]? = some (f.offset, sizeT P f.type) := by simp [hfi]
          have hsz : v.cells.size = sizeT P f.type := by omega
          have hset := foldl_set f.offset v.cells.toList 0 cells (by simp; omega)
          simp only [Nat.add_zero, Array.length_toList] at hset
          have hz : (v.cells.zipIdx.foldl (fun cs (c, j) => cs.setIfInBounds (f.offset + j) c) cells) = (cells.toList.take f.offset ++ v.cells.toList ++ cells.toList.drop (f.offset + v.cells.size)).toArray := by
            apply Array.toList_inj.1
            rw [← Array.foldl_toList, Array.toList_zipIdx]
            simpa using hset
          obtain ⟨arr, a1, a2, a3⟩ := fill_sound hu ps qs _ out (cells.toList.take f.offset ++ v.cells.toList ++ cells.toList.drop (f.offset + v.cells.size)).toArray h (by simpa using hl)
            (fun j hj hk => by have := hp (j + 1) (by simp; omega) (by simp; omega); simpa using this)
            (by simp; omega)
            (fun j hj hk => by
              simp only [List.getElem_toArray]
              have g1 := List.getElem?_eq_getElem hj
              have hk' : j < (cells.toList.take f.offset ++ v.cells.toList ++ cells.toList.drop (f.offset + v.cells.size)).length := by simpa using hk
              have g2 := List.getElem?_eq_getElem hk'
              generalize (List.take f.offset cs ++ x.cells ++ List.drop (f.offset + sizeT P f.type) cs)[j] = U at g1
              generalize (cells.toList.take f.offset ++ v.cells.toList ++ cells.toList.drop (f.offset + v.cells.size))[j] = V at g2
              rw [splice_get _ _ _ _ _ hc1 hc2] at g1
              rw [splice_get _ _ _ _ _ (by simp) (by simp; omega)] at g2
              by_cases c1 : j < f.offset
              · rw [if_pos c1] at g1 g2
                obtain ⟨l1, rfl⟩ := List.getElem?_eq_some_iff.1 g1
                obtain ⟨l2, rfl⟩ := List.getElem?_eq_some_iff.1 g2
                simp only [Array.getElem_toList]
                exact hr j l1 (by simpa using l2)
              · by_cases c2 : j < f.offset + sizeT P f.type
                · rw [if_neg c1, if_pos c2] at g1
                  rw [if_neg c1, if_pos (by omega)] at g2
                  obtain ⟨l1, rfl⟩ := List.getElem?_eq_some_iff.1 g1
                  obtain ⟨l2, rfl⟩ := List.getElem?_eq_some_iff.1 g2
                  simp only [Array.getElem_toList]
                  exact (r2 _ l1 (by simpa using l2)).1
                · rw [if_neg c1, if_neg c2] at g1
                  rw [if_neg c1, if_neg (by omega)] at g2
                  obtain ⟨l1, rfl⟩ := List.getElem?_eq_some_iff.1 g1
                  obtain ⟨l2, rfl⟩ := List.getElem?_eq_some_iff.1 g2
                  simp only [Array.getElem_toList]
                  exact hr j l1 (by simpa using l2))
          refine ⟨arr, ?_, a2, a3⟩
          unfold Instr.fill
          simp only [hplace]
          rw [if_neg (by simp; omega), hz]
          exact a1
        · cases h

theorem structT_spec {t : TypeId} (h : structT P t = true) : ∃ fs, P.underlying t = some (.struct fs) ∧ ∀ f ∈ fs.toList, ∃ i, P.info? f.type = some i := by
  unfold structT at h
  cases hu : P.underlying t with
  | none => simp [hu] at h
  | some d =>
    rw [hu] at h
    cases d <;> simp at h
    rename_i fs
    refine ⟨fs, rfl, fun f hf => ?_⟩
    obtain ⟨k, hk, rfl⟩ := List.mem_iff_getElem.1 hf
    have := h k (by simpa using hk)
    exact Option.isSome_iff_exists.1 (by simpa using this)

theorem run_places {fs : Array Field} (h : ∀ f ∈ fs.toList, ∃ i, P.info? f.type = some i) : (fs.mapM fun f => do pure (f.offset, ← sizeOf f.type) : Sem _).run P w = .ok (fs.map fun f => (f.offset, sizeT P f.type)) w := by
  have key : ∀ l : List Field, (∀ f ∈ l, ∃ i, P.info? f.type = some i) → (l.mapM fun f => do pure (f.offset, ← sizeOf f.type) : Sem _).run P w = .ok (l.map fun f => (f.offset, sizeT P f.type)) w := by
    intro l
    induction l with
    | nil => intro _; simp
    | cons f r ih =>
      intro h
      obtain ⟨i, hi⟩ := h f (by simp)
      have := ih (fun g hg => h g (by simp [hg]))
      simp only [List.mapM_cons, Sem.run_bind, sizeT_run hi, Result.andThen_ok, Sem.run_pure, this, List.map_cons]
  rw [Array.mapM_eq_mapM_toList]
  simp only [Sem.run_map, key _ h, Result.andThen_ok]
  congr 1
  apply Array.toList_inj.1
  simp

theorem Yields.wp {o : Oper} {a : Act} {Q : Exit → Act → World → Prop} {K : AV → Prop} {B : AV → List AV → Prop} {s : Sem Value} (hh : Held I w) (h : Yields P I ρ hs w s K) (he : execOp a.eval o = (do pure (.value (← s)))) :
    o.wp P a w (FOut I ρ hs o.dst a w K B) Q := by
  obtain ⟨v, x, h1, h2, h3⟩ := h
  exact wp_value (x := x) (w' := w) (by rw [he]; simp [h1]) (.inl ⟨v, x, I, rfl, h2, h3, .refl hh⟩)

theorem v_list {z : Value} (h : z.cells.toList.all Value.oneCell' = true) : ∀ j (hj : j < (z.cells.toList.map AV.v).length) (hk : j < z.cells.size), Rep I ρ hs ((z.cells.toList.map AV.v)[j]) (z.cells[j]) ∧ (z.cells[j]).oneCell' = true := by
  intro j hj hk
  refine ⟨by simp; exact .stat (.v _), ?_⟩
  rw [List.all_eq_true] at h
  exact h _ (by simp)

/-- is it the call of a Go function? -/
def isCallV : Op → Bool
  | .call c => match c.callee with | .value _ => true | _ => false
  | _ => false

/-- THE CALL OF A GO FUNCTION: its result says what it says of content alone -/
theorem callV_sound {base : Nat} {ev : Operand → AV} {mem : Nat → Option (List AV)} {a : Act} (e : Env P I ρ hs base ev mem a w) {d : Option Nat} {t : TypeId} {pos : String} {after : Array Edge} {g : Option (Nat × Bool)} {o : Op} {K : AV → Prop} {B : AV → List AV → Prop} {Q : Exit → Act → World → Prop}
    (hcall : isCallV o = true) (h : fop P ev mem (d.getD 0) o K B .mk .mk) : (⟨d, o, t, pos, after, g⟩ : Oper).wp P a w (fun a' w' => ∃ v x I', a' = a.put d x ∧ K v ∧ RepS I' v x ∧ Grow I w I' w') Q := by
  obtain ⟨x, args, argTypes, rfl⟩ : ∃ x args argTypes, o = .call ⟨.value x, args, argTypes⟩ := by
    unfold isCallV at hcall
    split at hcall
    · rename_i c
      obtain ⟨callee, args, argTypes⟩ := c
      cases callee with
      | value x => exact ⟨x, args, argTypes, rfl⟩
      | invoke r m => simp at hcall
      | builtin b => simp at hcall
    · cases hcall
  have h' : calleeP P mem (ev x) (args.toList.map ev) K .mk := h
  obtain ⟨f, vs, hrun, hc⟩ := calleeP_sound e.held e.mem (vals := args.map a.eval) h' (e.ev x) (by simp) (fun j hj hk => by simp at hj hk ⊢; exact e.ev _)
  unfold Oper.wp
  have he : execOp a.eval ⟨d, .call ⟨.value x, args, argTypes⟩, t, pos, after, g⟩ = (do let d ← Deferred.ofValue (a.eval x) (args.map a.eval); invoke d.target d.args) := rfl
  rw [he, hrun, Oper.upon_enter]
  refine hc.mono ?_
  rintro e' w' ⟨v, y, I', rfl, k, r, gr⟩
  exact ⟨v, y, I', rfl, k, r, gr⟩

theorem flat_cells : ∀ (ps : List (Nat × Operand)) (ev : Operand → AV) (a : Act) (n : Nat), (∀ x, Rep I ρ hs (ev x) (a.eval x)) → (ps.all fun p => decide ((ev p.2).cells.length = n) && knownCells (ev p.2)) = true →
    (ps.flatMap fun p => (ev p.2).cells).length = ps.length * n ∧ (ps.flatMap fun p => (a.eval p.2).cells.toList).length = ps.length * n ∧ (∀ p ∈ ps, (a.eval p.2).cells.size = n) ∧
    ∀ j (hj : j < (ps.flatMap fun p => (ev p.2).cells).length) (hk : j < (ps.flatMap fun p => (a.eval p.2).cells.toList).length), Rep I ρ hs ((ps.flatMap fun p => (ev p.2).cells)[j]) ((ps.flatMap fun p => (a.eval p.2).cells.toList)[j]) ∧ ((ps.flatMap fun p => (a.eval p.2).cells.toList)[j]).oneCell' = true
  | [], _, _, _, _, _ => by simp
  | p :: r, ev, a, n, he, h => by
    simp only [List.all_cons, Bool.and_eq_true, decide_eq_true_eq] at h
    obtain ⟨⟨h1, h2⟩, h3⟩ := h
    obtain ⟨i1, i2, i3, i4⟩ := flat_cells r ev a n he h3
    obtain ⟨r1, r2⟩ := rep_cells (he p.2) h2
    refine ⟨by simp only [List.flatMap_cons, List.length_append, i1, h1, List.length_cons, Nat.add_mul]; omega, by simp only [List.flatMap_cons, List.length_append, i2, List.length_cons, Nat.add_mul, Array.length_toList, r1, h1]; omega, ?_, ?_⟩
    · intro q hq
      cases List.mem_cons.1 hq with
      | inl e => subst e; omega
      | inr e => exact i3 q e
    · intro j hj hk
      simp only [List.flatMap_cons] at hj hk ⊢
      by_cases c : j < n
      · rw [List.getElem_append_left (by omega), List.getElem_append_left (by simp; omega)]
        simp only [Array.getElem_toList]
        exact r2 j (by omega) (by omega)
      · rw [List.getElem_append_right (by omega), List.getElem_append_right (by simp; omega)]
        have e2 : j - (a.eval p.2).cells.toList.length = j - (ev p.2).cells.length := by simp; omega
        simp only [e2]
        exact i4 _ (by rw [List.length_append] at hj; omega) (by rw [List.length_append, Array.length_toList] at hk; omega)

/-- 'fill' over parts that follow one another -/
theorem fill_seq (size : Nat) : ∀ (vs : List Value) (k : Nat) (cells : Array Value), (∀ v ∈ vs, v.cells.size = size) → (k + vs.length) * size ≤ cells.size →
    Instr.fill (fun i => some (i * size, size)) cells (vs.zipIdx k |>.map fun p => (p.2, p.1)) = some (cells.toList.take (k * size) ++ vs.flatMap (fun v => v.cells.toList) ++ cells.toList.drop ((k + vs.length) * size)).toArray
  | [], k, cells, _, _ => by simp [Instr.fill]
  | v :: r, k, cells, h, hl => by
    have hv := h v (by simp)
    have e0 : (k + (v :: r).length) * size = k * size + size + r.length * size := by simp only [List.length_cons]; rw [Nat.add_mul, Nat.add_mul, Nat.one_mul]; omega
    have hset := foldl_set (k * size) v.cells.toList 0 cells (by simp; omega)
    simp only [Nat.add_zero, Array.length_toList, hv] at hset
    have hz : (v.cells.zipIdx.foldl (fun cs (c, j) => cs.setIfInBounds (k * size + j) c) cells) = (cells.toList.take (k * size) ++ v.cells.toList ++ cells.toList.drop (k * size + size)).toArray := by
      apply Array.toList_inj.1
      rw [← Array.foldl_toList, Array.toList_zipIdx]
      simpa using hset
    simp only [List.zipIdx_cons, List.map_cons]
    unfold Instr.fill
    simp only []
    rw [if_neg (by simp [hv]; omega)]
    rw [hz, fill_seq size r (k + 1) _ (fun x hx => h x (by simp [hx])) (by simp only [List.size_toArray, List.length_append, List.length_take, List.length_drop, Array.length_toList, hv]; rw [Nat.add_mul, Nat.add_mul]; omega)]
    congr 1
    apply Array.toList_inj.1
    simp only [List.flatMap_cons]
    have e1 : (k + 1) * size = k * size + size := by rw [Nat.add_mul, Nat.one_mul]
    have e2 : (k + 1 + r.length) * size = k * size + size + r.length * size := by rw [Nat.add_mul, Nat.add_mul, Nat.one_mul]
    have l1 : (cells.toList.take (k * size)).length = k * size := by simp; omega
    have l2 : (cells.toList.take (k * size) ++ v.cells.toList).length = k * size + size := by simp [hv]; omega
    rw [e0, e1, e2]
    have t1 : (cells.toList.take (k * size) ++ v.cells.toList ++ cells.toList.drop (k * size + size)).take (k * size + size) = cells.toList.take (k * size) ++ v.cells.toList := by
      rw [List.take_append_of_le_length (by omega), List.take_of_length_le (by omega)]
    have t2 : (cells.toList.take (k * size) ++ v.cells.toList ++ cells.toList.drop (k * size + size)).drop (k * size + size + r.length * size) = cells.toList.drop (k * size + size + r.length * size) := by
      rw [List.drop_append, List.drop_of_length_le (by omega), l2, List.drop_drop, List.nil_append]
      congr 1
      omega
    simp only [List.append_assoc] at t1 t2
    simp only [List.append_assoc, t1, t2]

theorem run_buildSlice {t e : TypeId} {inf : TypeInfo} (hu : P.underlying t = some (.slice e)) (hi : P.info? e = some inf) {z : Value} (hz : inf.zero = some z) (hzl : z.cells.size = sizeT P e) (vs : List Value) (hv : ∀ v ∈ vs, v.cells.size = sizeT P e) (hb : vs.length * sizeT P e ≤ 65536) :
    (Instr.buildSlice t vs.length (vs.zipIdx.map fun p => (p.2, p.1)).toArray).run P w = .ok (.slice (some ⟨w.heap.size, 0, none⟩) vs.length vs.length) (w.alloc (.cells (vs.flatMap fun v => v.cells.toList).toArray e)) := by
  have hn : ¬ (vs.length * sizeT P e > 2 ^ 24) := by omega
  have hzero : (zeroValue e).run P w = .ok z w := by simp [zeroValue, typeInfo, hi, hz]
  have hfill : ∀ zero : Array Value, Instr.fill (fun i => some (i * sizeT P e, sizeT P e)) ((Array.range (vs.length * sizeT P e)).map (zero[· % zero.size]!)) (vs.zipIdx.map fun p => (p.2, p.1)) = some (vs.flatMap fun v => v.cells.toList).toArray := by
    intro zero
    rw [fill_seq (sizeT P e) vs 0 _ hv (by simp)]
    congr 1
    apply Array.toList_inj.1
    simp
  have hz0 : ((if vs.length * sizeT P e = 0 then pure #[] else do pure (← zeroValue e).cells : Sem (Array Value))).run P w = .ok (if vs.length * sizeT P e = 0 then #[] else z.cells) w := by
    split <;> simp [hzero]
  unfold Instr.buildSlice
  simp only [Sem.run_bind, run_underlying hu, Result.andThen_ok, sizeT_run hi]
  rw [if_neg hn]
  simp only [Sem.run_bind, hz0, Result.andThen_ok, hfill, newRow, run_newObj_alloc, Sem.run_pure]
  split <;> simp [hzero]

theorem madeCells_one {z : Value} {n : Nat} {z' : Value} (h : z.cells.toList = [z']) : madeCells z.cells n = Array.replicate n z' := by
  have hc : z.cells = #[z'] := by apply Array.toList_inj.1; simpa using h
  rw [hc]
  unfold madeCells
  apply Array.ext
  · simp
  · intro i h1 h2
    simp [Nat.mod_one]

/-- what an operation yields that calls no Go function: its value in the world as it is, or a new block -/
def FRes (I : Gh) (ρ : Nat → Nat) (hs : Nat → Nat → Value) (d : Option Nat) (w : World) (K : AV → Prop) (B : AV → List AV → Prop) (x : Value) (w' : World) : Prop :=
  (∃ v, K v ∧ Rep I ρ hs v x ∧ w' = w) ∨
  (∃ v cs arr E, B v cs ∧ w' = w.alloc (.cells arr E) ∧ arr.size = cs.length ∧ (∀ j (hj : j < cs.length) (hk : j < arr.size), Rep I ρ hs (cs[j]) (arr[j]) ∧ (arr[j]).oneCell' = true) ∧
    ((v = .loc (d.getD 0) 0 ∧ x = .pointer (some ⟨w.heap.size, 0, none⟩)) ∨ ∃ z n, v = .own (d.getD 0) z n ∧ x = .slice (some ⟨w.heap.size, 0, none⟩) n n))

theorem Yields.run {o : Oper} {a : Act} {K : AV → Prop} {B : AV → List AV → Prop} {s : Sem Value} {d : Option Nat} (h : Yields P I ρ hs w s K) (he : execOp a.eval o = (do pure (.value (← s)))) :
    ∃ x w', (execOp a.eval o).run P w = .ok (.value x) w' ∧ FRes I ρ hs d w K B x w' := by
  obtain ⟨v, x, h1, h2, h3⟩ := h
  exact ⟨x, w, by rw [he]; simp [h1], .inl ⟨v, h2, h3, rfl⟩⟩

/-- ONE OPERATION THAT TURNS NOTHING AND CALLS NOTHING -/
theorem fop_run {base : Nat} {ev : Operand → AV} {mem : Nat → Option (List AV)} {a : Act} (e : Env P I ρ hs base ev mem a w) {d : Option Nat} {o : Op} {t : TypeId} {pos : String} {after : Array Edge} {g : Option (Nat × Bool)} {K : AV → Prop} {B : AV → List AV → Prop}
    (hcall : isCallV o = false) (h : fop P ev mem (d.getD 0) o K B .mk .mk) : ∃ x w', (execOp a.eval ⟨d, o, t, pos, after, g⟩).run P w = .ok (.value x) w' ∧ FRes I ρ hs d w K B x w' := by
  cases o <;> unfold fop at h <;> try exact h.elim
  case move x => exact Yields.run (s := pure (a.eval x)) ⟨_, _, by simp, h, e.ev x⟩ (by simp [execOp])
  case assign x => exact Yields.run (s := pure (a.eval x)) ⟨_, _, by simp, h, e.ev x⟩ (by simp [execOp])
  case pick c x y => exact Yields.run (pickP_sound h (e.ev c) (e.ev x) (e.ev y)) (by simp [execOp])
  case load t' x => exact Yields.run (loadP_sound e.held e.mem h (e.ev x)) rfl
  case binOp op xt x y yt => exact Yields.run (binP_sound (xo := x) (yo := y) h (e.ev x) (e.ev y)) rfl
  case unOp op xt x => exact Yields.run (unP_sound h (e.ev x)) rfl
  case fieldAddr t' x i => exact Yields.run (fieldAP_sound h (e.ev x)) rfl
  case field t' x i => exact Yields.run (fieldP_sound h (e.ev x)) rfl
  case indexAddr t' x i => exact Yields.run (indexAP_sound h (e.ev x) (e.ev i)) rfl
  case index t' x i => exact Yields.run (strIndexP_sound h (e.ev x) (e.ev i)) rfl
  case extract x i => exact Yields.run (tupP_sound h (e.ev x)) rfl
  case call c =>
    obtain ⟨callee, args, argTypes⟩ := c
    cases callee with
    | value x => cases hcall
    | invoke r m => exact h.elim
    | builtin b =>
      unfold callOp at h
      cases b <;> try exact h.elim
      simp only at h
      split at h
      · rename_i x t' ts hx ht
        have hargs : args = #[x] := by apply Array.toList_inj.1; simpa using hx
        have hat : argTypes = (t' :: ts).toArray := by apply Array.toList_inj.1; simpa using ht
        subst hargs
        subst hat
        obtain ⟨v, y, h1, h2, h3⟩ := lenP_sound (P := P) (I := I) (ρ := ρ) (hs := hs) (w := w) h (e.ev x) (ts := t' :: ts) rfl (by simp) t
        refine ⟨y, w, ?_, .inl ⟨v, h2, h3, rfl⟩⟩
        simp [execOp, resolve, invoke, builtin] at h1 ⊢
        simp [h1]
      · exact h.elim
  case slice t' x lo hi mx =>
    cases mx with
    | some _ => exact h.elim
    | none =>
      have hx : (P.underlying t').isSome = true ∧ ∀ n el, P.underlying t' ≠ some (.array n el) := by
        have h' := h
        simp only at h'
        unfold sliceP at h'
        split at h'
        · have := stringT_spec h'.1.1; simp [this]
        · obtain ⟨q, hq, _⟩ := Option.map_eq_some_iff.1 h'.1.1; have := (elemT_spec hq).1; simp [this]
        · obtain ⟨q, hq, _⟩ := Option.map_eq_some_iff.1 h'.1.1; have := (elemT_spec hq).1; simp [this]
        · exact h'.elim
      have hy := sliceP_sound (P := P) (w := w) (lo' := lo.map a.eval) (hi' := hi.map a.eval) h (e.ev x) (by cases lo with | none => exact .inr ⟨rfl, rfl⟩ | some l => exact .inl ⟨_, rfl, e.ev l⟩) (by cases hi with | none => exact .inr ⟨rfl, rfl⟩ | some l => exact .inl ⟨_, rfl, e.ev l⟩)
      obtain ⟨v, y, h1, h2, h3⟩ := hy
      refine Yields.run (s := Instr.sliceAt t' (a.eval x) (lo.map a.eval) (hi.map a.eval) none) ⟨v, y, ?_, h2, h3⟩ rfl
      obtain ⟨q, hq⟩ := Option.isSome_iff_exists.1 hx.1
      unfold Instr.sliceAt
      simp only [Sem.run_bind, run_underlying hq, Result.andThen_ok]
      cases q <;> first | exact (hx.2 _ _ hq).elim | exact h1
  case nilCheck x =>
    simp only at h
    unfold nilP at h
    split at h
    · rename_i s off hx
      have r := e.ev x
      rw [hx] at r
      have hr := rep_loc r
      refine Yields.run (s := pure (a.eval x)) ⟨_, _, by simp, h, r⟩ ?_
      simp [execOp, hr]
    · rename_i cs hx
      have r := e.ev x
      rw [hx] at r
      refine Yields.run (s := pure (a.eval x)) ⟨_, _, by simp, h, r⟩ ?_
      obtain ⟨b, off, hr⟩ : ∃ b off, a.eval x = .pointer (some ⟨b, off, none⟩) := by
        have r' := rep_ep r
        generalize a.eval x = u at r'
        cases r' with | ep _ b off vals _ _ => exact ⟨b, off, rfl⟩
      simp [execOp, hr]
    · exact h.elim
  case makeFunc f first caps =>
    cases f <;> try exact h.elim
    rename_i f
    obtain ⟨h0, k⟩ := h
    have hf : first = #[] := Array.eq_empty_of_size_eq_zero h0
    subst hf
    refine Yields.run (s := pure (.func (.func f) #[] (caps.map a.eval))) ⟨_, .func (.func f) #[] (caps.map a.eval), by simp, k, .fn f _ (caps.map a.eval) (by simp) fun j hj hk => ?_⟩ (by simp [execOp, Instr.makeFunc])
    simp at hj hk ⊢
    exact e.ev _
  case alloc t' =>
    simp only at h
    cases hz : zeroT P t' with
    | none => rw [hz] at h; exact h.elim
    | some z =>
      rw [hz] at h
      obtain ⟨h1, k⟩ := h
      obtain ⟨i, v, hi, hv, rfl⟩ := zeroT_spec hz
      refine ⟨.pointer (some ⟨w.heap.size, 0, none⟩), w.alloc (.cells v.cells t'), ?_, .inr ⟨_, _, v.cells, t', k, rfl, by simp, v_list h1, .inl ⟨rfl, rfl⟩⟩⟩
      simp [execOp, Instr.alloc, zeroValue, typeInfo, hi, hv, newVar, newRow]
  case box t' x =>
    obtain ⟨h1, k⟩ := h
    obtain ⟨r1, r2⟩ := rep_cells (e.ev x) h1
    refine ⟨.pointer (some ⟨w.heap.size, 0, none⟩), w.alloc (.cells (a.eval x).cells t'), ?_, .inr ⟨_, _, (a.eval x).cells, t', k, rfl, r1, r2, .inl ⟨rfl, rfl⟩⟩⟩
    simp [execOp, Instr.box, newVar, newRow]
  case build t' ps =>
    simp only at h
    cases hz : zeroT P t' with
    | none => rw [hz] at h; exact h.elim
    | some z =>
      rw [hz] at h
      simp only [optP] at h
      split at h
      · rename_i cs hb
        obtain ⟨h1, k⟩ := h
        obtain ⟨i, v, hi, hv, rfl⟩ := zeroT_spec hz
        obtain ⟨fs, hu, hfs⟩ := structT_spec h1
        obtain ⟨arr, a1, a2, a3⟩ := fill_sound (I := I) (ρ := ρ) (hs := hs) hu (ps.toList.map fun p => (p.1, ev p.2)) (ps.toList.map fun p => (p.1, a.eval p.2)) _ cs v.cells hb (by simp)
          (fun j hj hk => by simp at hj hk ⊢; exact e.ev _) (by simp) (fun j hj hk => by simp; exact .stat (.v _))
        refine Yields.run (s := Instr.build t' (ps.map fun p => (p.1, a.eval p.2))) ⟨_, .agg arr, ?_, k, .agg _ _ a2 a3⟩ rfl
        have hzero : (zeroValue t').run P w = .ok v w := by simp [zeroValue, typeInfo, hi, hv]
        unfold Instr.build
        simp only [Sem.run_bind, hzero, run_underlying hu, Result.andThen_ok, run_places hfs, Array.toList_map, a1, Sem.run_pure]
      · exact h.elim
  case buildSlice t' n ps =>
    simp only at h
    cases he : elemT P t' with
    | none => rw [he] at h; exact h.elim
    | some el =>
      rw [he] at h
      obtain ⟨⟨h1, h2, h3, h4⟩, k⟩ := h
      obtain ⟨hu, inf, hinf⟩ := elemT_spec he
      obtain ⟨z, hz, hzl⟩ : ∃ z, inf.zero = some z ∧ z.cells.size = sizeT P el := by
        unfold zeroT at h4
        rw [hinf] at h4
        simp only [Option.map_map, Option.map_eq_some_iff, Function.comp] at h4
        obtain ⟨z, hz, hl⟩ := h4
        exact ⟨z, hz, by simpa using hl⟩
      obtain ⟨c1, c2, c3, c4⟩ := flat_cells ps.toList ev a _ e.ev h3
      have hlen : ps.toList.length = n := by have := congrArg List.length h1; simpa using this
      have hrun := run_buildSlice (w := w) hu hinf hz hzl (ps.toList.map fun p => a.eval p.2) (by intro v hv; obtain ⟨p, hp, rfl⟩ := List.mem_map.1 hv; exact c3 p hp) (by simp [hlen]; omega)
      have hparts : (((ps.toList.map fun p => a.eval p.2).zipIdx.map fun p => (p.2, p.1)).toArray) = ps.map fun p => (p.1, a.eval p.2) := by
        apply Array.toList_inj.1
        simp only [List.toList_toArray, Array.toList_map]
        apply List.ext_getElem
        · simp
        · intro j q1 q2
          simp at q1 q2 ⊢
          have : (ps.toList.map (·.1))[j]? = (List.range n)[j]? := by rw [h1]
          have hjn : j < n := by rw [← hlen, Array.length_toList]; exact q1
          rw [List.getElem?_range hjn] at this
          simp [q1] at this
          exact this.symm
      rw [hparts] at hrun
      simp only [List.length_map, hlen] at hrun
      refine ⟨.slice (some ⟨w.heap.size, 0, none⟩) n n, w.alloc (.cells (ps.toList.flatMap fun p => (a.eval p.2).cells.toList).toArray el), ?_, .inr ⟨_, _, _, el, k, rfl, by simp [c1, c2], ?_, .inr ⟨_, _, rfl, rfl⟩⟩⟩
      · have he' : execOp a.eval ⟨d, .buildSlice t' n ps, t, pos, after, g⟩ = (do pure (.value (← Instr.buildSlice t' n (ps.map fun p => (p.1, a.eval p.2))))) := rfl
        rw [he']
        simp only [Sem.run_bind, hrun, Result.andThen_ok, Sem.run_pure]
        congr 2
        simp [List.flatMap_map]
      · intro j hj hk
        simp only [List.getElem_toArray]
        exact c4 j hj (by rw [List.size_toArray] at hk; exact hk)
  case makeSlice t' l c =>
    simp only at h
    cases he : elemT P t' with
    | none => rw [he] at h; exact h.elim
    | some el =>
      rw [he] at h
      simp only [optP] at h
      split at h
      · rename_i z hz
        simp only [intP] at h
        split at h
        · rename_i kl n hn
          split at h
          · rename_i kc n' hn'
            obtain ⟨⟨rfl, h0, h1, h2, h3, h3', h4⟩, k⟩ := h
            obtain ⟨hu, inf, hinf⟩ := elemT_spec he
            obtain ⟨i, v, hi, hv, hvc⟩ := zeroT_spec hz
            rw [hinf] at hi; cases hi
            have r1 := e.ev l; rw [hn] at r1; have r1 := rep_v r1
            have r2 := e.ev c; rw [hn'] at r2; have r2 := rep_v r2
            have hb : bytesT P el = inf.bytes := by simp [bytesT, hinf]
            have hsz : inf.size = z.length := by have := h3; simpa [sizeT, hinf] using this
            have hbytes : (inf.bytes : Int) * n' ≤ 281474976710656 := by
              have hq : (inf.bytes : Int) ≤ 64 := by omega
              calc (inf.bytes : Int) * n' ≤ 64 * 1099511627776 := Int.mul_le_mul hq h1 h0 (by omega)
                _ ≤ 281474976710656 := by omega
            have hrun := run_make (P := P) w t' el inf v hu hinf hv kl kc n' n' h0 (Int.le_refl _) hbytes (by omega)
            rw [hsz] at hrun
            have hcs : v.cells.size = z.length := by rw [← hvc]; simp
            obtain ⟨g1, g2⟩ := repC_get (z.map AV.v) n'.toNat
            rw [List.length_map] at g1 g2
            refine ⟨.slice (some ⟨w.heap.size, 0, none⟩) n'.toNat n'.toNat, w.alloc (.cells (madeCells v.cells (n'.toNat * z.length)) el), ?_, .inr ⟨_, _, _, el, k, rfl, by rw [size_madeCells, g1], ?_, .inr ⟨_, _, rfl, rfl⟩⟩⟩
            · have he' : execOp a.eval ⟨d, .makeSlice t' l c, t, pos, after, g⟩ = (do pure (.value (← Instr.makeSlice t' (a.eval l) (a.eval c)))) := rfl
              rw [he', r1, r2]
              simp only [Sem.run_bind, hrun, Result.andThen_ok, Sem.run_pure]
            · intro j hj hk
              have hj' : j < n'.toNat * z.length := by rw [← g1]; exact hj
              have hm : j % z.length < z.length := Nat.mod_lt _ h3'
              have e1 : (repC n'.toNat (z.map AV.v))[j] = .v (z[j % z.length]) := by
                have := g2 j hj'
                rw [List.getElem?_eq_getElem hj, List.getElem?_eq_getElem (by simpa using hm), List.getElem_map] at this
                exact Option.some.inj this
              have e2 : (madeCells v.cells (n'.toNat * z.length))[j] = z[j % z.length] := by
                have e3 : ∀ i (h : i < v.cells.size), v.cells[i]! = v.cells.toList[i] := fun i h => by simp [h]
                unfold madeCells
                simp only [Array.getElem_map, Array.getElem_range, hcs]
                rw [e3 _ (by rw [hcs]; exact hm)]
                simp only [hvc]
              rw [e1, e2]
              exact ⟨.stat (.v _), List.all_eq_true.1 h4 _ (List.getElem_mem hm)⟩
          · exact h.elim
        · exact h.elim
      · exact h.elim

/-- ONE OPERATION THAT TURNS NOTHING -/
theorem fop_sound {base : Nat} {ev : Operand → AV} {mem : Nat → Option (List AV)} {a : Act} (e : Env P I ρ hs base ev mem a w) {d : Option Nat} {o : Op} {t : TypeId} {pos : String} {after : Array Edge} {g : Option (Nat × Bool)} {K : AV → Prop} {B : AV → List AV → Prop} {Q : Exit → Act → World → Prop}
    (h : fop P ev mem (d.getD 0) o K B .mk .mk) : (⟨d, o, t, pos, after, g⟩ : Oper).wp P a w (FOut I ρ hs d a w K B) Q := by
  cases hc : isCallV o with
  | true =>
    refine Oper.wp_mono ?_ (callV_sound e hc h)
    rintro a' w' ⟨v, x, I', rfl, k, r, gr⟩
    exact .inl ⟨v, x, I', rfl, k, .stat r, gr⟩
  | false =>
    obtain ⟨x, w', hr, hf⟩ := fop_run (t := t) (pos := pos) (after := after) (g := g) e hc h
    refine wp_value hr ?_
    rcases hf with ⟨v, k, r, rfl⟩ | ⟨v, cs, arr, E, k, rfl, hn, hrep, hv⟩
    · exact .inl ⟨v, x, I, rfl, k, r, .refl e.held⟩
    · exact .inr ⟨v, cs, x, arr, E, rfl, k, rfl, hn, hrep, hv⟩
end
end Go.AM
namespace Go.AM
open Go.RowKit (Below)

section kill
variable {I : Gh} {ρ ρ' : Nat → Nat} {hs hs' : Nat → Nat → Value} {d : Nat}

theorem rep_killAtom (h1 : ∀ s, s ≠ d → ρ' s = ρ s) (h2 : ∀ s, s ≠ d → hs' s = hs s) {a : AV} {x : Value} (r : Rep I ρ hs a x) : Rep I ρ' hs' (a.killAtom d) x := by
  cases a with
  | any => exact .any x
  | v y => obtain rfl := rep_v r; exact .stat (.v _)
  | sl z es => exact .stat (rep_sl r)
  | agg fs => exact .any x
  | tup fs => exact .any x
  | ep cs => exact .stat (rep_ep r)
  | loc s off =>
    obtain rfl := rep_loc r
    by_cases h : s = d
    · simp only [AV.killAtom, h, if_true]; exact .any _
    · simp only [AV.killAtom, if_neg h]; rw [← h1 s h]; exact .loc s off
  | own s z n =>
    obtain rfl := rep_own r
    by_cases h : s = d
    · simp only [AV.killAtom, h, if_true]; exact .any _
    · simp only [AV.killAtom, if_neg h]; rw [← h1 s h]; exact .own s z n
  | app s z es =>
    have h0 := rep_app r
    by_cases h : s = d
    · simp only [AV.killAtom, h, if_true]; exact .stat h0.2
    · simp only [AV.killAtom, if_neg h]; exact .app s z es x (by rw [h2 s h]; exact h0.1) h0.2
  | fn f caps =>
    cases caps with
    | nil =>
      obtain ⟨arr, rfl, hn, _⟩ := rep_fn r
      exact .fn f [] arr hn (fun j hj => by cases hj)
    | cons => exact .any x

theorem rep_kill1 (h1 : ∀ s, s ≠ d → ρ' s = ρ s) (h2 : ∀ s, s ≠ d → hs' s = hs s) {a : AV} {x : Value} (r : Rep I ρ hs a x) : Rep I ρ' hs' (a.kill1 d) x := by
  cases a with
  | agg fs =>
    obtain ⟨arr, rfl, hn, hr⟩ := rep_agg r
    exact .agg _ arr (by simpa using hn) fun j hj hk => by simp at hj ⊢; exact rep_killAtom h1 h2 (hr j hj hk)
  | fn f caps =>
    obtain ⟨arr, rfl, hn, hr⟩ := rep_fn r
    exact .fn f _ arr (by simpa using hn) fun j hj hk => by simp at hj ⊢; exact rep_killAtom h1 h2 (hr j hj hk)
  | tup fs => exact .any x
  | any => exact rep_killAtom h1 h2 r
  | v y => exact rep_killAtom h1 h2 r
  | sl z es => exact rep_killAtom h1 h2 r
  | ep cs => exact rep_killAtom h1 h2 r
  | loc s off => exact rep_killAtom h1 h2 r
  | own s z n => exact rep_killAtom h1 h2 r
  | app s z es => exact rep_killAtom h1 h2 r
end kill

theorem kill_mem_spec {st : St} {d s : Nat} {cs : List AV} (h : (st.kill d).mem s = some cs) : s ≠ d ∧ ∃ cs0, st.mem s = some cs0 ∧ cs = cs0.map (AV.killAtom d) := by
  simp only [St.kill] at h
  split at h
  · cases h
  · rename_i hne
    obtain ⟨cs0, h0, rfl⟩ := Option.map_eq_some_iff.1 h
    exact ⟨hne, cs0, h0, rfl⟩
theorem kill_tok_spec {st : St} {d s : Nat} {p : Nat × Nat} (h : (st.kill d).tok s = some p) : s ≠ d ∧ st.tok s = some p := by
  simp only [St.kill] at h
  split at h
  · cases h
  · rename_i hne; exact ⟨hne, h⟩

section
variable {P : Program} {N : Nat} {w0 : World} {I0 : Gh} {st : St} {a : Act} {w w' : World} {I I' : Gh} {ρ ρ' : Nat → Nat} {hs hs' : Nat → Nat → Value}

/-- what a number stood for is forgotten; it may stand for anything from now on -/
theorem Conc.kill (c : Conc P N w0 I0 st a w I ρ hs) (d : Nat) (h1 : ∀ s, s ≠ d → ρ' s = ρ s) (h2 : ∀ s, s ≠ d → hs' s = hs s) : Conc P N w0 I0 (st.kill d) a w I ρ' hs' := by
  refine ⟨c.held, c.below, c.keeps, c.size, c.defers, fun i => rep_kill1 h1 h2 (c.fr i), ⟨?_, ?_, ?_, ?_⟩, ⟨?_, ?_, ?_, ?_⟩⟩
  · intro s cs h
    obtain ⟨hne, cs0, h0, rfl⟩ := kill_mem_spec h
    obtain ⟨E, arr, hg, hn, hr⟩ := c.mem.row s cs0 h0
    exact ⟨E, arr, by rw [h1 s hne]; exact hg, by simpa using hn, fun j hj hk => by simp at hj ⊢; exact ⟨rep_killAtom h1 h2 (hr j hj hk).1, (hr j hj hk).2⟩⟩
  · intro s cs h
    obtain ⟨hne, cs0, h0, rfl⟩ := kill_mem_spec h
    rw [h1 s hne]; exact c.mem.lo s cs0 h0
  · intro s cs h o
    obtain ⟨hne, cs0, h0, rfl⟩ := kill_mem_spec h
    rw [h1 s hne]; exact c.mem.free s cs0 h0 o
  · intro s s' cs cs' h h' e
    obtain ⟨hne, cs0, h0, rfl⟩ := kill_mem_spec h
    obtain ⟨hne', cs0', h0', rfl⟩ := kill_mem_spec h'
    rw [h1 s hne, h1 s' hne'] at e
    exact c.mem.inj s s' _ _ h0 h0' e
  · intro s n e h
    obtain ⟨hne, h0⟩ := kill_tok_spec h
    rw [h2 s hne]; exact c.tok.row s n e h0
  · intro s n e h
    obtain ⟨hne, h0⟩ := kill_tok_spec h
    rw [h2 s hne]; exact c.tok.free s n e h0
  · intro s n e h g hg s' cs h'
    obtain ⟨hne, h0⟩ := kill_tok_spec h
    obtain ⟨hne', cs0, h0', rfl⟩ := kill_mem_spec h'
    rw [h2 s hne] at hg
    rw [h1 s' hne']; exact c.tok.apart s n e h0 g hg s' cs0 h0'
  · intro s n e s' n' e' h h' g hg hg'
    obtain ⟨hne, h0⟩ := kill_tok_spec h
    obtain ⟨hne', h0'⟩ := kill_tok_spec h'
    rw [h2 s hne] at hg
    rw [h2 s' hne'] at hg'
    exact c.tok.inj s n e s' n' e' h0 h0' g hg hg'

theorem mem_lt {base : Nat} {mem : Nat → Option (List AV)} (m : MemOk I ρ hs base mem w) {s : Nat} {cs : List AV} (h : mem s = some cs) : ρ s < w.heap.size := by
  obtain ⟨E, arr, hg, _⟩ := m.row s cs h
  exact (Array.getElem?_eq_some_iff.1 hg).1

theorem heap_new (w : World) (o : Obj) : (w.alloc o).heap[w.heap.size]? = some o := by
  show (w.heap.push o)[w.heap.size]? = _
  simp

/-- a new block beside all that is there -/
theorem Conc.alloc (c : Conc P N w0 I0 st a w I ρ hs) (arr : Array Value) (E : TypeId) : Conc P N w0 I0 st a (w.alloc (.cells arr E)) I ρ hs := by
  refine c.grow ⟨⟨fun b o x h => ?_⟩, (Below.refl _ _).alloc (Nat.le_refl _) _, fun _ _ _ => rfl⟩
  have := c.held.cell b o x h
  refine ⟨?_, this.2⟩
  rw [World.cell?_alloc_lt _ _ _ (c.held.lt h)]
  exact this.1

/-- the new block gets its number -/
theorem Conc.setNew (c : Conc P N w0 I0 st a w I ρ hs) {d g : Nat} {cs : List AV} {arr : Array Value} {E : TypeId} (hd : ρ d = g) (hno : st.mem d = none) (hg : w.heap[g]? = some (.cells arr E (0, 0))) (hlo : w0.heap.size ≤ g) (hfree : ∀ o, I g o = none)
    (hmem : ∀ s cs, st.mem s = some cs → ρ s ≠ g) (htok : ∀ s n e, st.tok s = some (n, e) → ∀ b, (hs s n).ownBlock = some b → b ≠ g) (hn : arr.size = cs.length)
    (hr : ∀ j (hj : j < cs.length) (hk : j < arr.size), Rep I ρ hs (cs[j]) (arr[j]) ∧ (arr[j]).oneCell' = true) : Conc P N w0 I0 (st.setMem d cs) a w I ρ hs := by
  subst hd
  have hm : ∀ {s cs'}, (st.setMem d cs).mem s = some cs' → (s = d ∧ cs' = cs) ∨ (s ≠ d ∧ st.mem s = some cs') := by
    intro s cs' h
    simp only [St.setMem] at h
    split at h
    · rename_i e; cases h; exact .inl ⟨e, rfl⟩
    · rename_i e; exact .inr ⟨e, h⟩
  refine ⟨c.held, c.below, c.keeps, c.size, c.defers, c.fr, ⟨?_, ?_, ?_, ?_⟩, ⟨c.tok.row, c.tok.free, ?_, c.tok.inj⟩⟩
  · intro s cs' h
    rcases hm h with ⟨rfl, rfl⟩ | ⟨_, h⟩
    · exact ⟨E, arr, hg, hn, hr⟩
    · exact c.mem.row s cs' h
  · intro s cs' h
    rcases hm h with ⟨rfl, rfl⟩ | ⟨_, h⟩
    · exact hlo
    · exact c.mem.lo s cs' h
  · intro s cs' h
    rcases hm h with ⟨rfl, rfl⟩ | ⟨_, h⟩
    · exact hfree
    · exact c.mem.free s cs' h
  · intro s s' cs1 cs2 h h' e
    rcases hm h with ⟨rfl, rfl⟩ | ⟨hne, h3⟩
    · rcases hm h' with ⟨rfl, rfl⟩ | ⟨hne', h'⟩
      · rfl
      · exact (hmem s' cs2 h' e.symm).elim
    · rcases hm h' with ⟨rfl, rfl⟩ | ⟨hne', h'⟩
      · exact (hmem s cs1 (by assumption) e).elim
      · exact c.mem.inj s s' _ _ h3 h' e
  · intro s n e h b hb s' cs' h'
    rcases hm h' with ⟨rfl, rfl⟩ | ⟨_, h'⟩
    · exact fun q => htok s n e h b hb q.symm
    · exact c.tok.apart s n e h b hb s' cs' h'

/-- one of the call's own blocks is written -/
theorem Conc.write (c : Conc P N w0 I0 st a w I ρ hs) {s : Nat} {cs cs' : List AV} {arr' : Array Value} {E : TypeId} (hs0 : st.mem s = some cs) (hos : w'.os = w.os) (htape : w'.tape = w.tape) (hout : w'.output = w.output) (hsz : w'.heap.size = w.heap.size)
    (hblk : ∀ k, k ≠ ρ s → w'.heap[k]? = w.heap[k]?) (hg : w'.heap[ρ s]? = some (.cells arr' E (0, 0))) (hn : arr'.size = cs'.length)
    (hr : ∀ j (hj : j < cs'.length) (hk : j < arr'.size), Rep I ρ hs (cs'[j]) (arr'[j]) ∧ (arr'[j]).oneCell' = true) : Conc P N w0 I0 (st.setMem s cs') a w' I ρ hs := by
  have hlo := c.mem.lo s cs hs0
  have hm : ∀ {s' cs2}, (st.setMem s cs').mem s' = some cs2 → (s' = s ∧ cs2 = cs') ∨ (s' ≠ s ∧ st.mem s' = some cs2) := by
    intro s' cs2 h
    simp only [St.setMem] at h
    split at h
    · rename_i e; cases h; exact .inl ⟨e, rfl⟩
    · rename_i e; exact .inr ⟨e, h⟩
  have hother : ∀ {s' cs2}, s' ≠ s → st.mem s' = some cs2 → ρ s' ≠ ρ s := fun hne h e => hne (c.mem.inj _ _ _ _ h hs0 e)
  refine ⟨⟨fun b o x h => ?_⟩, ⟨hos.trans c.below.os, htape.trans c.below.tape, hout.trans c.below.output, by rw [hsz]; exact c.below.size, fun k hk => by rw [hblk k (by omega)]; exact c.below.block k hk⟩, c.keeps, c.size, c.defers, c.fr, ⟨?_, ?_, ?_, ?_⟩, ⟨?_, c.tok.free, ?_, c.tok.inj⟩⟩
  · have := c.held.cell b o x h
    refine ⟨?_, this.2⟩
    have hb : b ≠ ρ s := fun e => by rw [e, c.mem.free s cs hs0] at h; cases h
    exact (World.cell?_of_block (w := w) (a := ⟨b, o, none⟩) (hblk b hb)).trans this.1
  · intro s' cs2 h
    rcases hm h with ⟨rfl, rfl⟩ | ⟨hne, h⟩
    · exact ⟨E, arr', hg, hn, hr⟩
    · obtain ⟨E2, arr2, g2, r2⟩ := c.mem.row s' cs2 h
      exact ⟨E2, arr2, by rw [hblk _ (hother hne h)]; exact g2, r2⟩
  · intro s' cs2 h
    rcases hm h with ⟨rfl, rfl⟩ | ⟨hne, h⟩
    · exact hlo
    · exact c.mem.lo s' cs2 h
  · intro s' cs2 h
    rcases hm h with ⟨rfl, rfl⟩ | ⟨hne, h⟩
    · exact c.mem.free s' cs hs0
    · exact c.mem.free s' cs2 h
  · intro s1 s2 cs1 cs2 h h' e
    rcases hm h with ⟨rfl, rfl⟩ | ⟨hne, h3⟩
    · rcases hm h' with ⟨rfl, rfl⟩ | ⟨hne', h'⟩
      · rfl
      · exact (hother hne' h' e.symm).elim
    · rcases hm h' with ⟨rfl, rfl⟩ | ⟨hne', h'⟩
      · exact (hother hne (by assumption) e).elim
      · exact c.mem.inj _ _ _ _ h3 h' e
  · intro s' n e h
    obtain ⟨hz, xs, hx⟩ := c.tok.row s' n e h
    refine ⟨hz, xs, hx.1, ?_⟩
    rcases hx.2 with hnil | ⟨gb, cap, cur, hv, hb, hgb, r⟩
    · exact .inl hnil
    · have hne : gb ≠ ρ s := fun q => c.tok.apart s' n e h gb (by rw [hv]; rfl) s cs hs0 q.symm
      exact .inr ⟨gb, cap, cur, hv, hb, by rw [hblk gb hne]; exact hgb, r⟩
  · intro s' n e h b hb s2 cs2 h2
    rcases hm h2 with ⟨rfl, rfl⟩ | ⟨hne, h2⟩
    · exact c.tok.apart s' n e h b hb s2 cs hs0
    · exact c.tok.apart s' n e h b hb s2 cs2 h2

theorem setCells_eq : ∀ (xs cs : List AV) (off : Nat), off + xs.length ≤ cs.length → setCells cs off xs = cs.take off ++ xs ++ cs.drop (off + xs.length)
  | [], cs, off, _ => by simp [setCells]
  | x :: r, cs, off, h => by
    simp at h
    rw [setCells, setCells_eq r _ (off + 1) (by simp; omega)]
    apply List.ext_getElem?
    intro j
    rw [splice_get _ _ _ _ _ rfl (by simp; omega), splice_get _ _ _ _ _ rfl (by simp; omega)]
    simp only [List.length_cons, List.getElem?_set]
    by_cases c1 : j < off
    · rw [if_pos (by omega), if_pos c1, if_neg (by omega)]
    · rw [if_neg c1]
      by_cases c2 : j = off
      · subst c2
        rw [if_pos (by omega), if_pos (by omega), if_pos (by omega)]; simp
      · rw [if_neg (by omega)]
        by_cases c3 : j < off + 1 + r.length
        · rw [if_pos c3, if_pos (by omega)]
          obtain ⟨q, rfl⟩ : ∃ q, j = off + 1 + q := ⟨j - (off + 1), by omega⟩
          have : off + 1 + q - off = q + 1 := by omega
          rw [this]; simp
        · rw [if_neg c3, if_neg (by omega), if_neg (by omega)]
end
end Go.AM
namespace Go.AM
open Go.RowKit (Below)

section
variable {P : Program} {N : Nat} {w0 : World} {I0 : Gh} {st : St} {a : Act} {w : World} {I : Gh} {ρ : Nat → Nat} {hs : Nat → Nat → Value}
variable {d : Option Nat} {t : TypeId} {pos : String} {after : Array Edge} {g : Option (Nat × Bool)} {K : St → Prop} {Q : Exit → Act → World → Prop}

def AOut (P : Program) (N : Nat) (w0 : World) (I0 : Gh) (K : St → Prop) (a' : Act) (w' : World) : Prop := ∃ st', K st' ∧ CC P N w0 I0 st' a' w'

theorem store_sound (c : Conc P N w0 I0 st a w I ρ hs) (hd : ∀ t, d = some t → t < N) {ty : TypeId} {ad x : Operand}
    (h : storeP st (szT P ty) (st.ev ad) (st.ev x) (fun st' => K (st'.put d .un)) .mk) : (⟨d, .store ty ad x, t, pos, after, g⟩ : Oper).wp P a w (AOut P N w0 I0 K) Q := by
  unfold storeP at h
  split at h
  · rename_i s off hloc
    cases hms : st.mem s with
    | none => rw [hms] at h; exact h.elim
    | some cs =>
      rw [hms] at h
      obtain ⟨⟨h1, h2, h3⟩, k⟩ := h
      have hr := c.ev ad
      rw [hloc] at hr
      have hr := rep_loc hr
      obtain ⟨r1, r2⟩ := rep_cells (c.ev x) h1
      obtain ⟨E, arr, hg, hn, hrow⟩ := c.mem.row s cs hms
      obtain ⟨i, hi, hsz⟩ : ∃ i, P.info? ty = some i ∧ i.size = (st.ev x).cells.length := by
        unfold szT at h2
        obtain ⟨i, hi, e⟩ := Option.map_eq_some_iff.1 h2
        exact ⟨i, hi, e⟩
      have hst := run_storeCells_at P (ρ s) off E (a.eval x).cells.toList 0 arr w hg (by simp; omega) (fun v hv => by
        obtain ⟨j, hj, rfl⟩ := List.mem_iff_getElem.1 hv
        simp at hj ⊢
        exact (r2 j (by omega) hj).2)
      simp only [Nat.add_zero, Array.length_toList] at hst
      have hrun : (execOp a.eval ⟨d, .store ty ad x, t, pos, after, g⟩).run P w = .ok .skip (w.setRow (ρ s) (arr.toList.take off ++ (a.eval x).cells.toList ++ arr.toList.drop (off + (a.eval x).cells.size)).toArray) := by
        have he : execOp a.eval ⟨d, .store ty ad x, t, pos, after, g⟩ = (do Instr.storeAt ty (a.eval ad) (a.eval x); pure .skip) := rfl
        have hsr : (sizeOf ty).run P w = .ok (sizeT P ty) w := sizeT_run hi w
        have hsz' : sizeT P ty = (a.eval x).cells.size := by unfold sizeT; rw [hi]; simp only; omega
        rw [he, hr]
        simp [Instr.storeAt, Instr.sureAddr, storeVar, hsr, hsz', hst]
      refine wp_skip' hrun ⟨_, k, I, ρ, hs, ?_⟩
      refine Conc.put ?_ d hd (.stat (.v _))
      rw [setCells_eq _ _ _ h3]
      refine c.write hms rfl rfl rfl (by simp [World.setRow]) (fun k hk => setRow_other w _ k _ hk) (setRow_heap w _ _ _ _ _ hg) (by simp; omega) ?_
      intro j hj hk
      simp only [List.getElem_toArray]
      have g1 := List.getElem?_eq_getElem hj
      have hk' : j < (arr.toList.take off ++ (a.eval x).cells.toList ++ arr.toList.drop (off + (a.eval x).cells.size)).length := by simpa using hk
      have g2 := List.getElem?_eq_getElem hk'
      generalize (List.take off cs ++ (st.ev x).cells ++ List.drop (off + (st.ev x).cells.length) cs)[j] = U at g1
      generalize (arr.toList.take off ++ (a.eval x).cells.toList ++ arr.toList.drop (off + (a.eval x).cells.size))[j] = V at g2
      rw [splice_get _ _ _ _ _ rfl h3] at g1
      rw [splice_get _ _ _ _ _ (by simp) (by simp; omega)] at g2
      by_cases c1 : j < off
      · rw [if_pos c1] at g1 g2
        obtain ⟨l1, rfl⟩ := List.getElem?_eq_some_iff.1 g1
        obtain ⟨l2, rfl⟩ := List.getElem?_eq_some_iff.1 g2
        simp only [Array.getElem_toList]
        exact hrow j l1 (by simpa using l2)
      · by_cases c2 : j < off + (st.ev x).cells.length
        · rw [if_neg c1, if_pos c2] at g1
          rw [if_neg c1, if_pos (by omega)] at g2
          obtain ⟨l1, rfl⟩ := List.getElem?_eq_some_iff.1 g1
          obtain ⟨l2, rfl⟩ := List.getElem?_eq_some_iff.1 g2
          simp only [Array.getElem_toList]
          exact r2 _ l1 (by simpa using l2)
        · rw [if_neg c1, if_neg c2] at g1
          rw [if_neg c1, if_neg (by omega)] at g2
          obtain ⟨l1, rfl⟩ := List.getElem?_eq_some_iff.1 g1
          obtain ⟨l2, rfl⟩ := List.getElem?_eq_some_iff.1 g2
          simp only [Array.getElem_toList]
          exact hrow j l1 (by simpa using l2)
  · exact h.elim

/-- what the second operand of an append brings: its cells, by address -/
structure Src (I : Gh) (w : World) (z : Nat) (ys : List AV) (y : Value) (news : List Value) : Prop where
  len : news.length = ys.length * z
  one : ∀ u ∈ news, u.oneCell' = true
  rep : ∀ i (hi : i < ys.length), (ys[i]).cells.length = z ∧ ∀ j (hj : j < (ys[i]).cells.length), ∃ u, news[i * z + j]? = some u ∧ RepS I ((ys[i]).cells[j]) u
  form : (y = .slice none 0 0 ∧ ys = []) ∨ ∃ ad c, y = .slice (some ad) ys.length c ∧ ∀ j u, news[j]? = some u → w.cell? (ad.add j) = some u

theorem idx_split {n z k : Nat} (h : k < n * z) : ∃ i j, i < n ∧ j < z ∧ k = i * z + j := by
  have hz : 0 < z := by rcases Nat.eq_zero_or_pos z with h0 | h0; · subst h0; simp at h
                        · exact h0
  refine ⟨k / z, k % z, ?_, Nat.mod_lt _ hz, ?_⟩
  · exact (Nat.div_lt_iff_lt_mul hz).2 h
  · rw [Nat.mul_comm]; exact (Nat.div_add_mod k z).symm

theorem src_of_sl (hh : Held I w) {z : Nat} {ys : List AV} {y : Value} (r : RepS I (.sl z ys) y) : ∃ news, Src I w z ys y news := by
  cases r with
  | nil => exact ⟨[], ⟨by simp, by simp, (fun i hi => by cases hi), .inl ⟨rfl, rfl⟩⟩⟩
  | nila _ a cap => exact ⟨[], ⟨by simp, by simp, (fun i hi => by cases hi), .inr ⟨a, cap, rfl, fun j u h => by simp at h⟩⟩⟩
  | sl _ _ b off cap vals hsz hc hI hr =>
    have hidx : ∀ i j, i < ys.length → j < z → i * z + j < ys.length * z := fun i j hi hj => by
      calc i * z + j < i * z + z := by omega
        _ = (i + 1) * z := by rw [Nat.add_mul, Nat.one_mul]
        _ ≤ ys.length * z := Nat.mul_le_mul_right _ hi
    refine ⟨(List.range (ys.length * z)).map fun k => vals (k / z) (k % z), ⟨by simp, ?_, ?_, .inr ⟨_, _, rfl, ?_⟩⟩⟩
    · intro u hu
      simp at hu
      obtain ⟨k, hk, rfl⟩ := hu
      obtain ⟨i, j, hi, hj, rfl⟩ := idx_split hk
      have e1 : (i * z + j) / z = i := by rw [Nat.mul_comm, Nat.mul_add_div (by omega)]; simp [Nat.div_eq_of_lt hj]
      have e2 : (i * z + j) % z = j := by rw [Nat.mul_comm, Nat.mul_add_mod]; exact Nat.mod_eq_of_lt hj
      rw [e1, e2]
      exact (hh.cell _ _ _ (hI i hi j hj)).2
    · intro i hi
      refine ⟨hsz i hi, fun j hj => ⟨vals i j, ?_, hr i hi j hj⟩⟩
      have hj' : j < z := by rw [← hsz i hi]; exact hj
      have e1 : (i * z + j) / z = i := by rw [Nat.mul_comm, Nat.mul_add_div (by omega)]; simp [Nat.div_eq_of_lt hj']
      have e2 : (i * z + j) % z = j := by rw [Nat.mul_comm, Nat.mul_add_mod]; exact Nat.mod_eq_of_lt hj'
      rw [List.getElem?_map, List.getElem?_range (hidx i j hi hj')]
      simp [e1, e2]
    · intro k u hu
      rw [List.getElem?_map] at hu
      obtain ⟨k', hk', rfl⟩ := Option.map_eq_some_iff.1 hu
      obtain ⟨hlt, rfl⟩ := List.getElem?_eq_some_iff.1 hk'
      simp at hlt ⊢
      obtain ⟨i, j, hi, hj, rfl⟩ := idx_split hlt
      have e1 : (i * z + j) / z = i := by rw [Nat.mul_comm, Nat.mul_add_div (by omega)]; simp [Nat.div_eq_of_lt hj]
      have e2 : (i * z + j) % z = j := by rw [Nat.mul_comm, Nat.mul_add_mod]; exact Nat.mod_eq_of_lt hj
      rw [e1, e2, addr_add, ← Nat.add_assoc]
      exact (hh.cell _ _ _ (hI i hi j hj)).1

theorem zip_get (l : List AV) (vals : Nat → Value) (j : Nat) : (l.zipIdx.map fun p => vals p.2)[j]? = if j < l.length then some (vals j) else none := by
  rw [List.getElem?_map, List.getElem?_zipIdx]
  by_cases h : j < l.length
  · simp [h]
  · simp [h]

theorem stats_noagg : ∀ {cs bs : List AV}, AV.stats cs = some bs → ∀ y ∈ bs, y.cells = [y] := by
  intro cs
  induction cs with
  | nil => intro bs hb y hy; simp [AV.stats] at hb; subst hb; cases hy
  | cons a r ih =>
    intro bs hb y hy
    simp only [AV.stats] at hb
    cases g1 : a.stat1 with
    | none => simp [g1] at hb
    | some a' =>
      cases g2 : AV.stats r with
      | none => simp [g1, g2] at hb
      | some r' =>
        simp only [g1, g2, Option.some.injEq] at hb
        subst hb
        cases List.mem_cons.1 hy with
        | inl e => subst e; unfold AV.stat1 at g1; split at g1 <;> simp at g1 <;> subst g1 <;> rfl
        | inr e => exact ih g2 y e

theorem srcP_sound {base : Nat} {mem : Nat → Option (List AV)} (hh : Held I w) (hm : MemOk I ρ hs base mem w) {z : Nat} {y : AV} {K : List AV → Prop} {u : Value} (h : srcP mem z y K .mk) (r : Rep I ρ hs y u) : ∃ ys news, K ys ∧ Src I w z ys u news := by
  unfold srcP at h
  split at h
  · rename_i s z' n
    have hr := rep_own r
    cases hms : mem s with
    | none => rw [hms] at h; exact h.elim
    | some cs =>
      rw [hms] at h
      simp only [statsO] at h
      cases hst : AV.stats cs with
      | none => rw [hst] at h; exact h.elim
      | some l =>
        rw [hst] at h
        obtain ⟨vals, c1, c2, c3⟩ := mem_cell hm hms
        obtain ⟨e1, e2⟩ := stats_spec hst c2
        have hna := stats_noagg hst
        simp only [grpOf] at h
        by_cases hz : z = 1
        · rw [if_pos hz] at h
          split at h
          · rename_i hc
            obtain ⟨hz', hl⟩ := hc
            refine ⟨l, l.zipIdx.map fun p => vals p.2, h, ⟨by simp [hz], ?_, ?_, .inr ⟨⟨ρ s, 0, none⟩, n, by rw [hr, hl], ?_⟩⟩⟩
            · intro x hx
              simp at hx
              obtain ⟨q, p, hp, rfl⟩ := hx
              have hlt : p < l.length := by have := List.mem_zipIdx hp; omega
              exact (c3 p _ (c1 p (by omega))).2.2
            · intro i hi
              have hc := hna _ (List.getElem_mem hi)
              refine ⟨by rw [hc, hz]; rfl, fun j hj => ?_⟩
              have hj0 : j = 0 := by rw [hc] at hj; simpa using hj
              subst hj0
              refine ⟨vals i, by simp [hz, hi], ?_⟩
              simp only [hc]
              exact e2 i hi
            · intro j x hx
              rw [zip_get] at hx
              split at hx
              · rename_i hlt
                cases hx
                rw [addr_add, Nat.zero_add]
                exact c1 _ (by omega)
              · cases hx
          · exact h.elim
        · rw [if_neg hz] at h
          split at h
          · rename_i hc
            obtain ⟨hn1, hz', hl⟩ := hc
            refine ⟨[.agg l], l.zipIdx.map fun p => vals p.2, h, ⟨by simp [hl], ?_, ?_, .inr ⟨⟨ρ s, 0, none⟩, n, by rw [hr, hn1]; rfl, ?_⟩⟩⟩
            · intro x hx
              simp at hx
              obtain ⟨q, p, hp, rfl⟩ := hx
              have hlt : p < l.length := by have := List.mem_zipIdx hp; omega
              exact (c3 p _ (c1 p (by omega))).2.2
            · intro i hi
              have hi0 : i = 0 := by simpa using hi
              subst hi0
              refine ⟨by simpa [AV.cells] using hl, fun j hj => ?_⟩
              have hj' : j < l.length := hj
              refine ⟨vals j, ?_, e2 j hj'⟩
              rw [zip_get, if_pos (by omega)]; simp
            · intro j x hx
              rw [zip_get] at hx
              split at hx
              · rename_i hlt
                cases hx
                rw [addr_add, Nat.zero_add]
                exact c1 _ (by omega)
              · cases hx
          · exact h.elim
  · rename_i z' es
    obtain ⟨rfl, k⟩ := h
    obtain ⟨news, hsrc⟩ := src_of_sl hh (rep_sl r)
    exact ⟨es, news, k, hsrc⟩
  · rename_i s z' es
    obtain ⟨rfl, k⟩ := h
    obtain ⟨news, hsrc⟩ := src_of_sl hh (rep_app r).2
    exact ⟨es, news, k, hsrc⟩
  · obtain rfl := rep_v r
    exact ⟨[], [], h, ⟨by simp, by simp, (fun i hi => by cases hi), .inl ⟨rfl, rfl⟩⟩⟩
  · exact h.elim

/-- where an append may have written -/
structure WroteAt (w w' : World) (g : Nat) : Prop where
  os : w'.os = w.os
  tape : w'.tape = w.tape
  output : w'.output = w.output
  size : w.heap.size ≤ w'.heap.size
  block : ∀ k, k < w.heap.size → k ≠ g → w'.heap[k]? = w.heap[k]?

theorem run_append_any {t e ty : TypeId} {inf : TypeInfo} {zv : Value} {base : Nat} (hu : P.underlying t = some (.slice e)) (hi : P.info? e = some inf) (hz : inf.zero = some zv) (hzs : zv.cells.size = inf.size) (hsz : 0 < inf.size)
    {v : Value} {n : Nat} {xs : List Value} (hown : w.ownsRow base e inf.size v n xs) {ys : List AV} {y : Value} {news : List Value} (src : Src I w inf.size ys y news) (hbase : base ≤ w.heap.size) (hlen : n + ys.length ≤ 1099511627776) (hb : inf.bytes ≤ 64) :
    ∃ v' w', (Builtin.append_ #[t, t] ty #[v, y]).run P w = .ok v' w' ∧ w'.ownsRow base e inf.size v' (n + ys.length) (xs ++ news) ∧
      ((v' = .slice none 0 0 ∧ w' = w) ∨ ∃ g, v'.ownBlock = some g ∧ WroteAt w w' g ∧ (v.ownBlock = some g ∨ w.heap.size ≤ g)) := by
  have hbytes : (n + ys.length) * inf.bytes ≤ 140737488355328 := by
    calc (n + ys.length) * inf.bytes ≤ 1099511627776 * 64 := Nat.mul_le_mul hlen hb
      _ ≤ 140737488355328 := by omega
  rcases src.form with ⟨rfl, rfl⟩ | ⟨ad, c, rfl, hcells⟩
  · have hn : news = [] := List.eq_nil_of_length_eq_zero (by have := src.len; simpa using this)
    subst hn
    rcases hown.2 with ⟨rfl, rfl⟩ | ⟨g, cap, cur, rfl, hbg, hg, hnc, hcm, hcs, htake⟩
    · refine ⟨.slice none 0 0, w, ?_, by simpa using hown, .inl ⟨rfl, rfl⟩⟩
      simp [Builtin.append_, run_underlying hu, sizeOf, typeInfo, hi, Builtin.lenOf, Builtin.firstCells]
    · refine ⟨.slice (some ⟨g, 0, none⟩) n cap, w, ?_, by simpa using hown, .inr ⟨g, rfl, ⟨rfl, rfl, rfl, Nat.le_refl _, fun _ _ _ => rfl⟩, .inl rfl⟩⟩
      simp [Builtin.append_, run_underlying hu, sizeOf, typeInfo, hi, Builtin.lenOf, Builtin.firstCells, hnc, storeCells]
  · obtain ⟨v', w', hr, ho, hg, _⟩ := run_append_own (P := P) w base t ty e inf zv inf.size inf.bytes hu hi hz rfl rfl hzs hsz v n xs hown ad ys.length c news src.len hcells src.one (by simp only [maxLen]; omega) hbytes hbase
    refine ⟨v', w', hr, ho, ?_⟩
    rcases hown.2 with ⟨rfl, rfl⟩ | ⟨g, cap, cur, rfl, hbg, hgg, hnc, hcm, hcs, htake⟩
    · by_cases hm : ys.length = 0
      · have hn : news = [] := List.eq_nil_of_length_eq_zero (by rw [src.len, hm]; simp)
        have : (Builtin.append_ #[t, t] ty #[.slice none 0 0, .slice (some ad) ys.length c]).run P w = .ok (.slice none 0 0) w := by
          simp [Builtin.append_, run_underlying hu, sizeOf, typeInfo, hi, Builtin.lenOf, Builtin.firstCells, loadCells, loadCellsFrom, hm]
        rw [this] at hr
        cases hr
        exact .inl ⟨rfl, rfl⟩
      · have h2 := run_append_nil (P := P) w t ty e inf zv hu hi hz ad ys.length c news src.len hcells (by omega) (by omega) (by simp only [Nat.zero_add] at hbytes; omega)
        rw [h2] at hr
        cases hr
        exact .inr ⟨w.heap.size, rfl, ⟨rfl, rfl, rfl, by simp, (fun k hk _ => heap_alloc_old w.drew _ hk)⟩, .inr (Nat.le_refl _)⟩
    · by_cases hroom : n + ys.length ≤ cap
      · have hfit : n * inf.size + news.length ≤ cur.size := by rw [src.len, hcs, ← Nat.add_mul]; exact Nat.mul_le_mul_right _ hroom
        have h2 := run_append_room (P := P) (ty := ty) w t e inf hu hi g n cap cur hgg ad ys.length c news src.len hcells src.one hroom hfit
        rw [h2] at hr
        cases hr
        exact .inr ⟨g, rfl, ⟨rfl, rfl, rfl, by simp [World.setRow], fun k _ hk => setRow_other w g k _ hk⟩, .inl rfl⟩
      · have holds : ∀ j u, xs[j]? = some u → w.cell? ((⟨g, 0, none⟩ : Addr).add j) = some u := hown.cells (g := g) rfl
        have h2 := run_append_grow (P := P) (ty := ty) w t e inf zv hu hi hz ⟨g, 0, none⟩ n cap xs hown.1 holds ad ys.length c news src.len hcells (by omega) (by omega) (growslice_fits (by omega) hbytes)
        rw [h2] at hr
        cases hr
        exact .inr ⟨w.heap.size, rfl, ⟨rfl, rfl, rfl, by simp, (fun k hk _ => heap_alloc_old w.drew _ hk)⟩, .inr (Nat.le_refl _)⟩
end
end Go.AM
namespace Go.AM
open Go.RowKit (Below)

section
variable {P : Program} {N : Nat} {w0 : World} {I0 : Gh} {st : St} {a : Act} {w w' : World} {I I' : Gh} {ρ : Nat → Nat} {hs : Nat → Nat → Value}
variable {d : Option Nat} {t : TypeId} {pos : String} {after : Array Edge} {g : Option (Nat × Bool)} {K : St → Prop} {Q : Exit → Act → World → Prop}

/-- memory has been written at one block that is none of the call's own that the state knows of -/
theorem Conc.wrote (c : Conc P N w0 I0 st a w I ρ hs) {b : Nat} (hw : WroteAt w w' b) (hI : Held I' w') (hle : ∀ b o x, I b o = some x → I' b o = some x) (hkeep : ∀ k o, k ≠ b → I' k o = I k o) (hlo : w0.heap.size ≤ b)
    (hmem : ∀ s cs, st.mem s = some cs → ρ s ≠ b) (htok : ∀ s n e, st.tok s = some (n, e) → ∀ b', (hs s n).ownBlock = some b' → b' ≠ b) : Conc P N w0 I0 st a w' I' ρ hs := by
  refine ⟨hI, ⟨hw.os.trans c.below.os, hw.tape.trans c.below.tape, hw.output.trans c.below.output, Nat.le_trans c.below.size hw.size, fun k hk => (hw.block k (Nat.lt_of_lt_of_le hk c.below.size) (by omega)).trans (c.below.block k hk)⟩,
    fun k o hk => (hkeep k o (by omega)).trans (c.keeps k o hk), c.size, c.defers, fun i => (c.fr i).mono hle, ⟨?_, c.mem.lo, ?_, c.mem.inj⟩, ⟨?_, ?_, c.tok.apart, c.tok.inj⟩⟩
  · intro s cs h
    obtain ⟨E, arr, hg, hn, hr⟩ := c.mem.row s cs h
    exact ⟨E, arr, by rw [hw.block _ (mem_lt c.mem h) (hmem s cs h)]; exact hg, hn, fun j hj hk => ⟨(hr j hj hk).1.mono hle, (hr j hj hk).2⟩⟩
  · intro s cs h o
    rw [hkeep _ _ (hmem s cs h)]; exact c.mem.free s cs h o
  · intro s n e h
    obtain ⟨hz, xs, hx⟩ := c.tok.row s n e h
    refine ⟨hz, xs, hx.1, ?_⟩
    rcases hx.2 with hnil | ⟨gb, cap, cur, hv, hb, hgb, r⟩
    · exact .inl hnil
    · have hne := htok s n e h gb (by rw [hv]; rfl)
      exact .inr ⟨gb, cap, cur, hv, hb, by rw [hw.block gb (Array.getElem?_eq_some_iff.1 hgb).1 hne]; exact hgb, r⟩
  · intro s n e h b' hb' o ho
    rw [hkeep _ _ (htok s n e h b' hb')]; exact c.tok.free s n e h b' hb' o ho

/-- a slice gets a number under which it may grow -/
theorem Conc.setTok (c : Conc P N w0 I0 st a w I ρ hs) {s n e : Nat} (hno : st.tok s = none) (hz : 0 < sizeT P e) {xs : List Value} (hown : w.ownsRow w0.heap.size e (sizeT P e) (hs s n) n xs) (hfree : ∀ b, (hs s n).ownBlock = some b → ∀ o, n * sizeT P e ≤ o → I b o = none)
    (hmem : ∀ b, (hs s n).ownBlock = some b → ∀ s' cs, st.mem s' = some cs → ρ s' ≠ b) (htok : ∀ b, (hs s n).ownBlock = some b → ∀ s' n' e', st.tok s' = some (n', e') → ∀ b', (hs s' n').ownBlock = some b' → b' ≠ b) : Conc P N w0 I0 (st.setTok s n e) a w I ρ hs := by
  have hm : ∀ {s' n' e'}, (st.setTok s n e).tok s' = some (n', e') → (s' = s ∧ n' = n ∧ e' = e) ∨ (s' ≠ s ∧ st.tok s' = some (n', e')) := by
    intro s' n' e' h
    simp only [St.setTok] at h
    split at h
    · rename_i q
      simp only [Option.some.injEq, Prod.mk.injEq] at h
      exact .inl ⟨q, h.1.symm, h.2.symm⟩
    · rename_i q; exact .inr ⟨q, h⟩
  refine ⟨c.held, c.below, c.keeps, c.size, c.defers, c.fr, c.mem, ⟨?_, ?_, ?_, ?_⟩⟩
  · intro s' n' e' h
    rcases hm h with ⟨rfl, rfl, rfl⟩ | ⟨_, h⟩
    · exact ⟨hz, xs, hown⟩
    · exact c.tok.row _ _ _ h
  · intro s' n' e' h
    rcases hm h with ⟨rfl, rfl, rfl⟩ | ⟨_, h⟩
    · exact hfree
    · exact c.tok.free _ _ _ h
  · intro s' n' e' h
    rcases hm h with ⟨rfl, rfl, rfl⟩ | ⟨_, h⟩
    · exact hmem
    · exact c.tok.apart _ _ _ h
  · intro s1 n1 e1 s2 n2 e2 h1 h2 b hb1 hb2
    rcases hm h1 with ⟨rfl, rfl, rfl⟩ | ⟨q1, h1'⟩
    · rcases hm h2 with ⟨rfl, rfl, rfl⟩ | ⟨q2, h2'⟩
      · rfl
      · exact (htok b hb1 _ _ _ h2' b hb2 rfl).elim
    · rcases hm h2 with ⟨rfl, rfl, rfl⟩ | ⟨q2, h2'⟩
      · exact (htok b hb2 _ _ _ h1' b hb1 rfl).elim
      · exact c.tok.inj _ _ _ _ _ _ h1' h2' b hb1 hb2

/-- the elements after an append, by content -/
theorem app_rep {z : Nat} {es ys : List AV} {xs news : List Value} {v v' y : Value} {base e : Nat} (hz : 0 < z) (hes : RepS I (.sl z es) v) (hh : Held I w) (hown : w.ownsRow base e z v es.length xs) (src : Src I w z ys y news) (hown' : w'.ownsRow base e z v' (es.length + ys.length) (xs ++ news))
    (hI' : ∀ g, v'.ownBlock = some g → ∀ o u, (xs ++ news)[o]? = some u → I' g o = some u) (hle : ∀ b o x, I b o = some x → I' b o = some x) : RepS I' (.sl z (es ++ ys)) v' ∧ ∀ u ∈ xs, u.oneCell' = true := by
  have hxs : ∀ i (hi : i < es.length), (es[i]).cells.length = z ∧ ∀ j (hj : j < (es[i]).cells.length), ∃ u, xs[i * z + j]? = some u ∧ RepS I ((es[i]).cells[j]) u ∧ u.oneCell' = true := by
    intro i hi
    cases hes with
    | nil => cases hi
    | nila => cases hi
    | sl _ _ b off cap vals hsz hc hI hr =>
      refine ⟨hsz i hi, fun j hj => ?_⟩
      have hj' : j < z := by rw [← hsz i hi]; exact hj
      rcases hown.2 with ⟨h, _⟩ | ⟨g, cap2, cur, hv, hb, hg, hn, hm, hcs, htake⟩
      · cases h
      · cases hv
        have hc1 := hh.cell _ _ _ (hI i hi j hj')
        have hlt : i * z + j < es.length * z := by
          calc i * z + j < i * z + z := by omega
            _ = (i + 1) * z := by rw [Nat.add_mul, Nat.one_mul]
            _ ≤ es.length * z := Nat.mul_le_mul_right _ hi
        refine ⟨vals i j, ?_, hr i hi j hj, hc1.2⟩
        have h2 := hc1.1
        simp only [World.cell?, hg, Nat.zero_add] at h2
        simp at h2
        rw [← htake, List.getElem?_take_of_lt hlt]
        simpa using h2
  refine ⟨?_, ?_⟩
  · have hlen : (es ++ ys).length = es.length + ys.length := List.length_append
    have hall : ∀ i (hi : i < (es ++ ys).length), ((es ++ ys)[i]).cells.length = z ∧ ∀ j (hj : j < ((es ++ ys)[i]).cells.length), ∃ u, (xs ++ news)[i * z + j]? = some u ∧ RepS I' (((es ++ ys)[i]).cells[j]) u := by
      intro i hi
      by_cases c : i < es.length
      · simp only [List.getElem_append_left c]
        obtain ⟨h1, h2⟩ := hxs i c
        refine ⟨h1, fun j hj => ?_⟩
        obtain ⟨u, hu, hr, _⟩ := h2 j hj
        exact ⟨u, by rw [List.getElem?_append_left (List.getElem?_eq_some_iff.1 hu).1]; exact hu, hr.mono hle⟩
      · have hi2 : i - es.length < ys.length := by omega
        simp only [List.getElem_append_right (Nat.le_of_not_lt c)]
        obtain ⟨h1, h2⟩ := src.rep (i - es.length) hi2
        refine ⟨h1, fun j hj => ?_⟩
        obtain ⟨u, hu, hr⟩ := h2 j hj
        refine ⟨u, ?_, hr.mono hle⟩
        have e1 : i * z + j = xs.length + ((i - es.length) * z + j) := by
          rw [hown.1]
          have : i * z = es.length * z + (i - es.length) * z := by rw [← Nat.add_mul]; congr 1; omega
          omega
        rw [e1, List.getElem?_append_right (by omega)]
        have e2 : xs.length + ((i - es.length) * z + j) - xs.length = (i - es.length) * z + j := by omega
        rw [e2]; exact hu
    rcases hown'.2 with ⟨rfl, h0⟩ | ⟨g, cap, cur, rfl, hb, hg, hn, hm, hcs, htake⟩
    · have : es ++ ys = [] := List.eq_nil_of_length_eq_zero (by omega)
      rw [this]; exact .nil z
    · rw [← hlen] at hn ⊢
      refine .sl z _ g 0 cap (fun i j => ((xs ++ news)[i * z + j]?).getD undef) (fun i hi => (hall i hi).1) hn (fun i hi j hj => ?_) (fun i hi j hj => ?_)
      · obtain ⟨u, hu, _⟩ := (hall i hi).2 j (by rw [(hall i hi).1]; exact hj)
        rw [hu, Nat.zero_add]
        exact hI' g rfl _ u hu
      · obtain ⟨u, hu, hr⟩ := (hall i hi).2 j hj
        rw [hu]; exact hr
  · intro u hu
    obtain ⟨k, hk, rfl⟩ := List.mem_iff_getElem.1 hu
    obtain ⟨i, j, hi, hj, rfl⟩ := idx_split (n := es.length) (z := z) (by rw [← hown.1]; exact hk)
    obtain ⟨h1, h2⟩ := hxs i hi
    obtain ⟨u, hu, _, h3⟩ := h2 j (by omega)
    have := (List.getElem?_eq_some_iff.1 hu).2
    rw [this]; exact h3

theorem append_step (c : Conc P N w0 I0 st a w I ρ hs) {s e ty : Nat} {es ys : List AV} {v y : Value} {xs news : List Value} {inf : TypeInfo} {zv : Value} (hu : P.underlying t = some (.slice e)) (hi : P.info? e = some inf) (hzv : inf.zero = some zv) (hzs : zv.cells.size = inf.size) (hz : 0 < sizeT P e) (hb : inf.bytes ≤ 64)
    (hes : RepS I (.sl (sizeT P e) es) v) (hown : w.ownsRow w0.heap.size e (sizeT P e) v es.length xs) (src : Src I w (sizeT P e) ys y news) (hlen : es.length + ys.length ≤ 1099511627776)
    (hfree : ∀ b, v.ownBlock = some b → ∀ o, es.length * sizeT P e ≤ o → I b o = none) (hmem : ∀ b, v.ownBlock = some b → ∀ s' cs, st.mem s' = some cs → ρ s' ≠ b)
    (htok : ∀ b, v.ownBlock = some b → ∀ s' n' e', s' ≠ s → st.tok s' = some (n', e') → ∀ b', (hs s' n').ownBlock = some b' → b' ≠ b) :
    ∃ v' w', (Builtin.append_ #[t, t] ty #[v, y]).run P w = .ok v' w' ∧ ∃ I' hs', Conc P N w0 I0 ((st.kill s).setTok s (es.length + ys.length) e) a w' I' ρ hs' ∧ Rep I' ρ hs' (.app s (sizeT P e) (es ++ ys)) v' := by
  have hsz : sizeT P e = inf.size := by simp [sizeT, hi]
  rw [hsz] at hes hown src hfree hz
  obtain ⟨v', w', hr, hown', hplace⟩ := run_append_any (P := P) (w := w) (ty := ty) hu hi hzv hzs hz hown src c.below.size hlen hb
  refine ⟨v', w', hr, ?_⟩
  let I' : Gh := fun b o => open Classical in if v'.ownBlock = some b ∧ o < (xs ++ news).length then (xs ++ news)[o]? else I b o
  let hs' : Nat → Nat → Value := fun s' k => if s' = s then v' else hs s' k
  have hI1 : ∀ g, v'.ownBlock = some g → ∀ o u, (xs ++ news)[o]? = some u → I' g o = some u := fun g hg o u hu => by
    show (if v'.ownBlock = some g ∧ o < (xs ++ news).length then (xs ++ news)[o]? else I g o) = some u
    rw [if_pos ⟨hg, (List.getElem?_eq_some_iff.1 hu).1⟩]; exact hu
  -- what is recorded of the block's head is what the row holds
  have hhead : ∀ g o x, v'.ownBlock = some g → I g o = some x → (xs ++ news)[o]? = some x := by
    intro g o x hg hx
    rcases hplace with ⟨rfl, rfl⟩ | ⟨g', hg', hw, hold⟩
    · cases hg
    · rw [hg] at hg'; cases hg'
      rcases hold with hold | hnew
      · have hlt : o < es.length * inf.size := by
          rcases Nat.lt_or_ge o (es.length * inf.size) with h | h
          · exact h
          · rw [hfree g hold o h] at hx; cases hx
        have hc1 := (c.held.cell g o x hx).1
        rcases hown.2 with ⟨h, _⟩ | ⟨g2, cap2, cur, hv, hb2, hg2, hn2, hm2, hcs, htake⟩
        · rw [h] at hold; cases hold
        · rw [hv] at hold; cases hold
          simp only [World.cell?, hg2] at hc1
          simp at hc1
          rw [List.getElem?_append_left (by rw [hown.1]; exact hlt), ← htake, List.getElem?_take_of_lt hlt]
          simpa using hc1
      · have := c.held.lt hx; omega
  have hle : ∀ b o x, I b o = some x → I' b o = some x := by
    intro b o x hx
    show (if v'.ownBlock = some b ∧ o < (xs ++ news).length then (xs ++ news)[o]? else I b o) = some x
    split
    · rename_i hc; exact hhead b o x hc.1 hx
    · exact hx
  obtain ⟨hrep, hone⟩ := app_rep hz hes c.held hown src hown' hI1 hle
  have hone' : ∀ u ∈ xs ++ news, u.oneCell' = true := fun u hu => by
    rcases List.mem_append.1 hu with h | h
    · exact hone u h
    · exact src.one u h
  have hheld : Held I' w' := by
    refine ⟨fun b o x hx => ?_⟩
    change (if v'.ownBlock = some b ∧ o < (xs ++ news).length then (xs ++ news)[o]? else I b o) = some x at hx
    split at hx
    · rename_i hc
      have := hown'.cells hc.1 o x hx
      rw [addr_add, Nat.zero_add] at this
      exact ⟨this, hone' x (List.mem_of_getElem? hx)⟩
    · rename_i hc
      have h1 := c.held.cell b o x hx
      rcases hplace with ⟨rfl, rfl⟩ | ⟨g', hg', hw, hold⟩
      · exact h1
      · by_cases hbg : b = g'
        · subst hbg
          exact (hc ⟨hg', (List.getElem?_eq_some_iff.1 (hhead b o x hg' hx)).1⟩).elim
        · exact ⟨(World.cell?_of_block (w := w) (a := ⟨b, o, none⟩) (hw.block b (c.held.lt hx) hbg)).trans h1.1, h1.2⟩
  have c1 : Conc P N w0 I0 (st.kill s) a w I ρ hs' := c.kill s (fun _ _ => rfl) (fun s' hne => by funext k; simp [hs', hne])
  have hs's : ∀ k, hs' s k = v' := fun k => by simp [hs']
  have hs'o : ∀ s' k, s' ≠ s → hs' s' k = hs s' k := fun s' k h => by simp [hs', h]
  have hnot : (st.kill s).tok s = none := by simp [St.kill]
  -- the block of the new slice is none of the others'
  have hm1 : ∀ b, v'.ownBlock = some b → ∀ s' cs, (st.kill s).mem s' = some cs → ρ s' ≠ b := by
    intro b hb s' cs h
    obtain ⟨hne, cs0, h0, _⟩ := kill_mem_spec h
    rcases hplace with ⟨rfl, rfl⟩ | ⟨g', hg', hw, hold⟩
    · cases hb
    · rw [hb] at hg'; cases hg'
      rcases hold with hold | hnew
      · exact hmem b hold s' cs0 h0
      · have := mem_lt c.mem h0; omega
  have ht1 : ∀ b, v'.ownBlock = some b → ∀ s' n' e', (st.kill s).tok s' = some (n', e') → ∀ b', (hs' s' n').ownBlock = some b' → b' ≠ b := by
    intro b hb s' n' e' h b' hb'
    obtain ⟨hne, h0⟩ := kill_tok_spec h
    rw [hs'o s' n' hne] at hb'
    rcases hplace with ⟨rfl, rfl⟩ | ⟨g', hg', hw, hold⟩
    · cases hb
    · rw [hb] at hg'; cases hg'
      rcases hold with hold | hnew
      · exact htok b hold s' n' e' hne h0 b' hb'
      · obtain ⟨_, xs', hx'⟩ := c.tok.row s' n' e' h0
        have := (hx'.lt b' hb').2; omega
  have c2 : Conc P N w0 I0 (st.kill s) a w' I' ρ hs' := by
    rcases hplace with ⟨hv, hw⟩ | ⟨g', hg', hw, hold⟩
    · subst hw
      have hII : I' = I := by
        funext b o
        show (if v'.ownBlock = some b ∧ o < (xs ++ news).length then (xs ++ news)[o]? else I b o) = I b o
        rw [if_neg]; rintro ⟨h, _⟩; rw [hv] at h; cases h
      rw [hII]; exact c1
    · have hlo : w0.heap.size ≤ g' := (hown'.lt g' hg').1
      refine c1.wrote hw hheld hle (fun k o hk => ?_) hlo (hm1 g' hg') (ht1 g' hg')
      show (if v'.ownBlock = some k ∧ o < (xs ++ news).length then (xs ++ news)[o]? else I k o) = I k o
      rw [if_neg]; rintro ⟨h, _⟩; rw [hg'] at h; cases h; exact hk rfl
  refine ⟨I', hs', c2.setTok hnot (by rw [hsz]; exact hz) (xs := xs ++ news) (by rw [hs's, hsz]; exact hown') ?_ ?_ ?_, ?_⟩
  · intro b hb o ho
    rw [hs's] at hb
    have hlen2 : (xs ++ news).length = (es.length + ys.length) * inf.size := hown'.1
    rw [hsz] at ho
    show (if v'.ownBlock = some b ∧ o < (xs ++ news).length then (xs ++ news)[o]? else I b o) = none
    rw [if_neg (by rintro ⟨_, h⟩; omega)]
    cases hx : I b o with
    | none => rfl
    | some x =>
      have := (List.getElem?_eq_some_iff.1 (hhead b o x hb hx)).1
      omega
  · intro b hb; rw [hs's] at hb; exact hm1 b hb
  · intro b hb; rw [hs's] at hb; exact ht1 b hb
  · rw [hsz]; exact .app s _ _ v' (by rw [hs's]) hrep
end
end Go.AM
namespace Go.AM
open Go.RowKit (Below)

section
variable {P : Program} {N : Nat} {w0 : World} {I0 : Gh} {st : St} {a : Act} {w w' : World} {I I' : Gh} {ρ : Nat → Nat} {hs : Nat → Nat → Value}
variable {d : Option Nat} {t : TypeId} {pos : String} {after : Array Edge} {g : Option (Nat × Bool)} {K : St → Prop} {Q : Exit → Act → World → Prop}

theorem append_sound (c : Conc P N w0 I0 st a w I ρ hs) (hd : ∀ t, d = some t → t < N) {x y : Operand} {ty : TypeId}
    (h : optP (elemT P ty) (fun e => vc ((zeroT P e).map List.length = some (sizeT P e)) (srcP st.mem (sizeT P e) (st.ev y) (fun ys => appP st (d.getD 0) e (sizeT P e) (bytesT P e) (st.ev x) ys (fun v st' => valP v (fun v => K (st'.put d v)) .mk) .mk) .mk) .mk) .mk) :
    (⟨d, .call ⟨.builtin .append, #[x, y], #[ty, ty]⟩, t, pos, after, g⟩ : Oper).wp P a w (AOut P N w0 I0 K) Q := by
  cases he : elemT P ty with
  | none => rw [he] at h; exact h.elim
  | some e =>
    rw [he] at h
    obtain ⟨h1, h2⟩ := h
    obtain ⟨hu, inf, hi⟩ := elemT_spec he
    obtain ⟨zv, hzv, hzs⟩ : ∃ z, inf.zero = some z ∧ z.cells.size = inf.size := by
      unfold zeroT at h1
      rw [hi] at h1
      simp only [Option.map_map, Option.map_eq_some_iff, Function.comp] at h1
      obtain ⟨z, hz, hl⟩ := h1
      exact ⟨z, hz, by simpa [sizeT, hi] using hl⟩
    have hbt : bytesT P e = inf.bytes := by simp [bytesT, hi]
    obtain ⟨ys, news, h3, src⟩ := srcP_sound (I := I) (ρ := ρ) (hs := hs) (w := w) c.held c.mem h2 (c.ev y)
    have fin : ∀ {s : Nat} {es : List AV} {v' w'}, (Builtin.append_ #[ty, ty] t #[a.eval x, a.eval y]).run P w = .ok v' w' → (∃ I' hs', Conc P N w0 I0 ((st.kill s).setTok s (es.length + ys.length) e) a w' I' ρ hs' ∧ Rep I' ρ hs' (.app s (sizeT P e) (es ++ ys)) v') →
        K (((st.kill s).setTok s (es.length + ys.length) e).put d (.app s (sizeT P e) (es ++ ys))) → (⟨d, .call ⟨.builtin .append, #[x, y], #[ty, ty]⟩, t, pos, after, g⟩ : Oper).wp P a w (AOut P N w0 I0 K) Q := by
      intro s es v' w' hr ⟨I', hs', hc, hrep⟩ k
      refine wp_value (x := v') (w' := w') ?_ ⟨_, k, I', ρ, hs', hc.put d hd hrep⟩
      simp [execOp, resolve, invoke, builtin, hr]
    have hx := c.ev x
    unfold appP at h3
    split at h3
    · rename_i hxe
      rw [hxe] at hx
      have hx := rep_v hx
      obtain ⟨⟨q1, q2, q3⟩, k⟩ := h3
      obtain ⟨v', w', hr, hc⟩ := append_step (P := P) (N := N) (w0 := w0) (I0 := I0) (t := ty) (s := d.getD 0) (ty := t) c hu hi hzv hzs q3 (by omega) (.nil (sizeT P e)) (xs := []) ⟨by simp, .inl ⟨rfl, rfl⟩⟩ src (by simpa using q1)
        (fun b hb => by cases hb) (fun b hb => by cases hb) (fun b hb => by cases hb)
      rw [← hx] at hr
      refine fin hr hc ?_
      simp only [List.nil_append, List.length_nil, Nat.zero_add]
      exact k
    · rename_i s z' es hxe
      rw [hxe] at hx
      obtain ⟨hx1, hx2⟩ := rep_app hx
      obtain ⟨⟨q1, q2, q3, q4, q5⟩, k⟩ := h3
      subst q2
      obtain ⟨hz, xs, hown⟩ := c.tok.row s _ e q1
      rw [← hx1] at hown
      obtain ⟨v', w', hr, hc⟩ := append_step (P := P) (N := N) (w0 := w0) (I0 := I0) (t := ty) (s := s) (ty := t) c hu hi hzv hzs q5 (by omega) hx2 hown src q3
        (fun b hb => c.tok.free s _ e q1 b (by rw [← hx1]; exact hb)) (fun b hb => c.tok.apart s _ e q1 b (by rw [← hx1]; exact hb))
        (fun b hb s' n' e' hne h' b' hb' heq => hne (c.tok.inj s' n' e' s _ e h' q1 b' hb' (by rw [← hx1, heq]; exact hb)))
      exact fin hr hc k
    · exact h3.elim

/-- an operation that turns nothing, among the others -/
theorem fop_step (c : Conc P N w0 I0 st a w I ρ hs) (hd : ∀ t, d = some t → t < N) {o : Op}
    (h : fop P st.ev st.mem (d.getD 0) o (fun v => valP v (fun v => K (st.put d v)) .mk) (fun v cs => valP cs (fun cs => K ((st.addB d cs).put d v)) .mk) .mk .mk) :
    (⟨d, o, t, pos, after, g⟩ : Oper).wp P a w (AOut P N w0 I0 K) Q := by
  refine Oper.wp_mono (fun a' w' hf => ?_) (fop_sound (base := w0.heap.size) ⟨c.held, c.ev, c.mem⟩ h)
  rcases hf with ⟨v, x, I', rfl, k, r, gr⟩ | ⟨v, cs, x, arr, E, rfl, k, rfl, hn, hr, hv⟩
  · exact ⟨_, k, I', ρ, hs, (c.grow gr).put d hd r⟩
  · let D := d.getD 0
    let ρ' : Nat → Nat := fun s => if s = D then w.heap.size else ρ s
    have hρ : ∀ s, s ≠ D → ρ' s = ρ s := fun s h => by simp [ρ', h]
    have hρD : ρ' D = w.heap.size := by simp [ρ']
    have c1 : Conc P N w0 I0 (st.kill D) a (w.alloc (.cells arr E)) I ρ' hs := (c.alloc arr E).kill D hρ (fun _ _ => rfl)
    have hno : (st.kill D).mem D = none := by simp [St.kill]
    have hfree : ∀ o, I w.heap.size o = none := fun o => by
      cases hx : I w.heap.size o with
      | none => rfl
      | some x => have := c.held.lt hx; omega
    have c2 : Conc P N w0 I0 ((st.kill D).setMem D (cs.map (AV.killAtom D))) a (w.alloc (.cells arr E)) I ρ' hs := by
      refine c1.setNew hρD hno (heap_new w _) c.below.size hfree ?_ ?_ (by simpa using hn) ?_
      · intro s cs' h
        obtain ⟨hne, cs0, h0, _⟩ := kill_mem_spec h
        rw [hρ s hne]
        have := mem_lt c.mem h0; omega
      · intro s n e h b hb
        obtain ⟨hne, h0⟩ := kill_tok_spec h
        obtain ⟨_, xs, hx⟩ := c.tok.row s n e h0
        have := (hx.lt b hb).2; omega
      · intro j hj hk
        simp at hj ⊢
        exact ⟨rep_killAtom hρ (fun _ _ => rfl) (hr j hj hk).1, (hr j hj hk).2⟩
    have heq : st.addB d cs = (st.kill D).setMem D (cs.map (AV.killAtom D)) := rfl
    refine ⟨_, k, I, ρ', hs, ?_⟩
    rw [heq]
    refine c2.put d hd ?_
    rcases hv with ⟨rfl, rfl⟩ | ⟨z, n, rfl, rfl⟩
    · rw [← hρD]; exact .loc _ _
    · rw [← hρD]; exact .own _ _ _

/-- ONE OPERATION OF WHATEVER KIND -/
theorem aop_sound (c : Conc P N w0 I0 st a w I ρ hs) (hd : ∀ t, d = some t → t < N) {o : Op} (h : aop P st d o K) : (⟨d, o, t, pos, after, g⟩ : Oper).wp P a w (AOut P N w0 I0 K) Q := by
  unfold aop at h
  split at h
  · exact store_sound c hd h
  · rename_i c'
    obtain ⟨callee, args, argTypes⟩ := c'
    simp only at h
    split at h
    · split at h
      · rename_i q1 q2 x y t1 t2 hx ht
        have hargs : args = #[x, y] := by apply Array.toList_inj.1; simpa using hx
        have hat : argTypes = #[t1, t2] := by apply Array.toList_inj.1; simpa using ht
        subst hargs; subst hat
        obtain ⟨rfl, h⟩ := h

        exact append_sound c hd h
      · exact h.elim
    · exact fop_step c hd h
  · exact fop_step c hd h

theorem dstOf_eq : ∀ (l : List Oper) (j : Nat), dstOf l j = (l[j]?).bind (·.dst)
  | [], j => by simp [dstOf]
  | o :: r, 0 => by simp [dstOf]
  | o :: r, j + 1 => by simp [dstOf, dstOf_eq r j]

/-- is the operation wanted? -/
theorem guard_sound (c : Conc P N w0 I0 st a w I ρ hs) (ops : List Oper) (o : Oper) {A B : Prop} (h : guardP ops st o.guard A B) : (Region.wanted o (yielded ops.toArray a.tmps) = true ∧ A) ∨ (Region.wanted o (yielded ops.toArray a.tmps) = false ∧ B) := by
  unfold Region.wanted
  cases hg : o.guard with
  | none => rw [hg] at h; exact .inl ⟨rfl, h⟩
  | some p =>
    obtain ⟨j, b⟩ := p
    rw [hg] at h
    simp only [guardP, dstOf_eq] at h
    simp only [yielded, List.getElem?_toArray]
    cases hd : (ops[j]?).bind (·.dst) with
    | none =>
      rw [hd] at h
      exact .inr ⟨by cases b <;> rfl, h⟩
    | some s =>
      rw [hd] at h
      simp only [St.frO] at h
      have hr := c.fr s
      have hget : a.tmps[s]? = some (a.tmps.getD s undef) ∨ (a.tmps[s]? = none ∧ a.tmps.getD s undef = undef) := by
        by_cases hlt : s < a.tmps.size
        · left; simp [Array.getD, hlt]
        · right; simp [Array.getD, hlt, Array.getElem?_eq_none (Nat.le_of_not_lt hlt)]
      unfold guardQ at h
      split at h
      · rename_i c0 hfr
        rw [hfr] at hr
        have hv := rep_v hr
        have hsome : a.tmps[s]? = some (.bool c0) := by
          rcases hget with hq | ⟨_, hq⟩
          · rw [hq, hv]
          · rw [hv] at hq; cases hq
        simp only [Option.bind_some, hsome]
        cases b <;> cases c0 <;> simp [ifP] at h ⊢ <;> exact h
      · rename_i q hfr
        rw [hfr] at hr
        have hv := rep_v hr
        refine .inr ⟨?_, h⟩
        simp only [Option.bind_some]
        rcases hget with hq | ⟨hq, _⟩
        · rw [hq, hv]; rfl
        · rw [hq]; rfl
      · exact h.elim

/-- OPERATIONS IN THE TEXT's ORDER -/
theorem seqOps_sound {Q : Exit → Act → World → Prop} (hQ : ∀ a' w', AOut P N w0 I0 K a' w' → Q .normal a' w') (ops : List Oper) : ∀ (l : List Oper) (st : St) (a : Act) (w : World), (∀ o ∈ l, ∀ t, o.dst = some t → t < N) → seqOps P ops l st K → CC P N w0 I0 st a w → wpList P ops.toArray Q l a w
  | [], st, a, w, _, h, hc => hQ _ _ ⟨st, h, hc⟩
  | o :: r, st, a, w, hd, h, ⟨I, ρ, hs, c⟩ => by
    unfold wpList
    have hd0 := hd o (by simp)
    rcases guard_sound c ops o h with ⟨hw, h1⟩ | ⟨hw, h1⟩
    · rw [if_pos hw]
      refine .inl ?_
      obtain ⟨dst, op, ty, pos, after, g⟩ := o
      refine Oper.wp_mono (fun a' w' hk => ?_) (aop_sound (Q := Q) c hd0 h1)
      obtain ⟨st', hk, hc⟩ := hk
      exact seqOps_sound hQ ops r st' a' w' (fun o ho => hd o (by simp [ho])) hk hc
    · rw [if_neg (by simp [hw])]
      exact seqOps_sound hQ ops r _ _ _ (fun o ho => hd o (by simp [ho])) h1 ⟨I, ρ, hs, c.put _ hd0 (.stat (.v _))⟩
end
end Go.AM
namespace Go.AM

def Pick (F : (AV → Prop) → Prop) : Prop := ∀ K : AV → Prop, F K → ∃ v, F (fun v' => v' = v) ∧ K v
theorem pick_at (v : AV) : Pick fun K => K v := fun _ h => ⟨v, rfl, h⟩
theorem pick_vc (p : Prop) {F : (AV → Prop) → Prop} (h : Pick F) : Pick fun K => vc p (F K) .mk := fun K ⟨hp, hk⟩ => let ⟨v, a, b⟩ := h K hk; ⟨v, ⟨hp, a⟩, b⟩
theorem pick_false : Pick fun _ => False := fun _ h => h.elim
theorem pick_opt {α : Type} (o : Option α) {F : α → (AV → Prop) → Prop} (h : ∀ a, Pick (F a)) : Pick fun K => optP o (fun a => F a K) .mk := fun K hk => by
  cases o with
  | none => exact hk.elim
  | some a => exact h a K hk
theorem pick_if (b : Bool) (x y : AV) : Pick fun K => ifP b (K x) (K y) .mk .mk := fun K h => by
  cases b with
  | true => exact ⟨x, ⟨fun _ => rfl, (fun q => by cases q)⟩, h.1 rfl⟩
  | false => exact ⟨y, ⟨(fun q => by cases q), fun _ => rfl⟩, h.2 rfl⟩
theorem pick_intBin (op : BinOp) (k : IntKind) (m n : Int) : Pick fun K => intBin op k m n K .mk := by
  cases op <;> first | exact pick_at _ | exact pick_vc _ (pick_at _) | exact pick_false
theorem pick_aggBin (op : BinOp) (L : Option (List (Nat × Nat))) (fs gs : List AV) : Pick fun K => aggBin op L fs gs K .mk := by
  cases op <;> first | exact pick_opt _ (fun L => pick_opt _ fun b => pick_at _) | exact pick_false
theorem pick_binP (P : Program) (op : BinOp) (t : TypeId) (x y : AV) : Pick fun K => binP P op t x y K .mk := by
  intro K h
  unfold binP at h
  split at h
  · rename_i k a k' b
    have : Pick fun K => intBin2 op k k' a b K .mk := by
      cases op <;> first | exact pick_vc _ (pick_at _) | exact pick_vc _ (pick_intBin _ _ _ _)
    exact this K h
  · rename_i a b
    have : Pick fun K => strBin op a b K .mk := by
      cases op <;> first | exact pick_at _ | exact pick_vc _ (pick_at _) | exact pick_false
    exact this K h
  · rename_i a b
    have : Pick fun K => boolBin P op t a b K .mk := by
      cases op <;> first | exact pick_at _ | exact pick_vc _ (pick_at _) | exact pick_false
    exact this K h
  · exact pick_aggBin _ _ _ _ K h
  · exact h.elim
theorem pick_unP (op : UnOp) (x : AV) : Pick fun K => unP op x K .mk := by
  intro K h
  unfold unP at h
  split at h
  · exact pick_at _ K h
  · exact pick_at _ K h
  · exact h.elim
theorem pick_pickP (c x y : AV) : Pick fun K => pickP c x y K .mk := by
  intro K h
  unfold pickP at h
  split at h
  · exact pick_if _ _ _ K h
  · exact h.elim
theorem pick_loadCs (g : Option Bool) (n : Nat) (cs : List AV) (off : Nat) : Pick fun K => loadCs g n cs off K .mk := by
  intro K h
  unfold loadCs at h
  split at h
  · exact pick_vc _ (pick_at _) K h
  · exact pick_vc _ (pick_at _) K h
  · exact h.elim
theorem pick_loadP (P : Program) (mem : Nat → Option (List AV)) (t : TypeId) (a : AV) : Pick fun K => loadP P mem t a K .mk := by
  intro K h
  unfold loadP at h
  split at h
  · exact pick_opt _ (fun cs => pick_loadCs _ _ cs _) K h
  · exact pick_loadCs _ _ _ _ K h
  · exact h.elim
theorem pick_fieldAP (f : Option (Nat × TypeId)) (a : AV) : Pick fun K => fieldAP f a K .mk := by
  intro K h
  unfold fieldAP at h
  split at h
  · exact pick_at _ K h
  · exact pick_vc _ (pick_at _) K h
  · exact h.elim
theorem pick_indexAP (z : Option Nat) (a i : AV) : Pick fun K => indexAP z a i K .mk := by
  intro K h
  unfold indexAP at h
  split at h
  · exact pick_vc _ (pick_at _) K h
  · exact pick_vc _ (pick_at _) K h
  · exact pick_vc _ (pick_at _) K h
  · exact h.elim
theorem pick_lenP (P : Program) (t : TypeId) (a : AV) : Pick fun K => lenP P t a K .mk := by
  intro K h
  unfold lenP at h
  split at h <;> first | exact pick_vc _ (pick_at _) K h | exact h.elim
theorem pick_callP (P : Program) (f : FuncId) (as : List AV) : Pick fun K => callP P f as K .mk := fun _ ⟨r, h, k⟩ => ⟨r, ⟨r, h, rfl⟩, k⟩
theorem pick_callVP (P : Program) (f : FuncId) (as : Option (List AV × Bool)) : Pick fun K => callVP P f as K .mk := by
  intro K h
  unfold callVP at h
  split at h
  · exact pick_callP _ _ _ K h
  · obtain ⟨r, h1, h2, h3⟩ := h
    exact ⟨r, ⟨r, h1, h2, rfl⟩, h3⟩
  · exact h.elim
theorem pick_callOp (P : Program) (ev : Operand → AV) (mem : Nat → Option (List AV)) (c : Call) : Pick fun K => callOp P ev mem c K .mk := by
  intro K h
  unfold callOp at h ⊢
  split at h
  · unfold calleeP at h ⊢
    split at h
    · exact pick_callVP _ _ _ K h
    · exact h.elim
  · split at h
    · exact pick_lenP _ _ _ K h
    · exact h.elim
  · exact h.elim
theorem pick_sliceP (P : Program) (t : TypeId) (x lo hi : AV) : Pick fun K => sliceP P t x lo hi K .mk := by
  intro K h
  unfold sliceP at h
  split at h <;> first | exact pick_vc _ (pick_at _) K h | exact h.elim
theorem pick_fieldP (P : Program) (f : Option (Nat × TypeId)) (a : AV) : Pick fun K => fieldP P f a K .mk := by
  intro K h
  unfold fieldP at h
  split at h
  · exact pick_loadCs _ _ _ _ K h
  · exact h.elim
theorem pick_strIndexP (P : Program) (t : TypeId) (a i : AV) : Pick fun K => strIndexP P t a i K .mk := by
  intro K h
  unfold strIndexP at h
  split at h <;> first | exact pick_vc _ (pick_at _) K h | exact h.elim
theorem pick_nilP (x : AV) : Pick fun K => nilP x K .mk := by
  intro K h
  unfold nilP at h
  split at h <;> first | exact pick_at _ K h | exact h.elim
theorem pick_tupP (x : AV) (i : Nat) : Pick fun K => tupP x i K .mk := by
  intro K h
  unfold tupP at h
  split at h <;> first | exact pick_vc _ (pick_at _) K h | exact h.elim

/-- what an operation yields: one value, and perhaps a block -/
def Yld (P : Program) (ev : Operand → AV) (mem : Nat → Option (List AV)) (d : Nat) (o : Op) (v : AV) (b : Option (List AV)) : Prop :=
  fop P ev mem d o (fun v' => v' = v ∧ b = none) (fun v' cs => v' = v ∧ b = some cs) .mk .mk

theorem fop_pick {P : Program} {ev : Operand → AV} {mem : Nat → Option (List AV)} {d : Nat} {o : Op} {K : AV → Prop} {B : AV → List AV → Prop} (h : fop P ev mem d o K B .mk .mk) :
    ∃ v b, Yld P ev mem d o v b ∧ (match b with | none => K v | some cs => B v cs) ∧ (b.isSome = true → makesB o = true) := by
  have eqn : ∀ v : AV, (fun v' : AV => v' = v ∧ (none : Option (List AV)) = none) = fun v' => v' = v := fun v => by funext v'; simp
  have one : ∀ (F : (AV → Prop) → Prop), Pick F → F K → (∀ v, F (fun v' => v' = v ∧ (none : Option (List AV)) = none) → Yld P ev mem d o v none) → ∃ v b, Yld P ev mem d o v b ∧ (match b with | none => K v | some cs => B v cs) ∧ (b.isSome = true → makesB o = true) := by
    intro F hp hk hy
    obtain ⟨v, h1, h2⟩ := hp K hk
    exact ⟨v, none, hy v (by rw [eqn v]; exact h1), h2, fun q => by cases q⟩
  cases o <;> unfold fop at h <;> try exact h.elim
  case move x => exact one _ (pick_at _) h (fun v hv => hv)
  case assign x => exact one _ (pick_at _) h (fun v hv => hv)
  case pick c x y => exact one _ (pick_pickP _ _ _) h (fun v hv => hv)
  case load t a => exact one _ (pick_loadP _ _ _ _) h (fun v hv => hv)
  case nilCheck x => exact one _ (pick_nilP _) h (fun v hv => hv)
  case binOp op t x y yt => exact one _ (pick_binP _ _ _ _ _) h (fun v hv => hv)
  case unOp op t x => exact one _ (pick_unP _ _) h (fun v hv => hv)
  case fieldAddr t x i => exact one _ (pick_fieldAP _ _) h (fun v hv => hv)
  case field t x i => exact one _ (pick_fieldP _ _ _) h (fun v hv => hv)
  case indexAddr t x i => exact one _ (pick_indexAP _ _ _) h (fun v hv => hv)
  case index t x i => exact one _ (pick_strIndexP _ _ _ _) h (fun v hv => hv)
  case extract x i => exact one _ (pick_tupP _ _) h (fun v hv => hv)
  case call c => exact one _ (pick_callOp _ _ _ _) h (fun v hv => hv)
  case slice t x lo hi mx =>
    cases mx with
    | some _ => exact h.elim
    | none => exact one _ (pick_sliceP _ _ _ _ _) h (fun v hv => hv)
  case makeFunc f first caps =>
    cases f <;> try exact h.elim
    exact one _ (pick_vc _ (pick_at _)) h (fun v hv => hv)
  case build t ps => exact one _ (pick_opt _ fun z => pick_opt _ fun cs => pick_vc _ (pick_at _)) h (fun v hv => hv)
  case alloc t =>
    simp only at h
    cases hz : zeroT P t with
    | none => rw [hz] at h; exact h.elim
    | some z => rw [hz] at h; exact ⟨_, some _, by unfold Yld fop; simp only [hz]; exact ⟨h.1, rfl, rfl⟩, h.2, fun _ => rfl⟩
  case box t x => exact ⟨_, some _, by unfold Yld fop; exact ⟨h.1, rfl, rfl⟩, h.2, fun _ => rfl⟩
  case buildSlice t n ps =>
    simp only at h
    cases hz : elemT P t with
    | none => rw [hz] at h; exact h.elim
    | some z => rw [hz] at h; exact ⟨_, some _, by unfold Yld fop; simp only [hz]; exact ⟨h.1, rfl, rfl⟩, h.2, fun _ => rfl⟩
  case makeSlice t l c =>
    simp only at h
    cases hz : elemT P t with
    | none => rw [hz] at h; exact h.elim
    | some e =>
      rw [hz] at h
      simp only [optP] at h
      split at h
      · rename_i z hz2
        simp only [intP] at h
        split at h
        · rename_i kl n hn
          split at h
          · rename_i kc n' hn'
            refine ⟨_, some _, ?_, h.2, fun _ => rfl⟩
            unfold Yld fop
            simp only [hz, optP, hz2, hn, intP, hn']
            exact ⟨h.1, rfl, rfl⟩
          · exact h.elim
        · exact h.elim
      · exact h.elim

/-- an operation looks at its operands alone -/
theorem fop_congr {P : Program} {ev ev' : Operand → AV} {mem : Nat → Option (List AV)} {d : Nat} {o : Op} {K : AV → Prop} {B : AV → List AV → Prop} (he : ∀ x ∈ o.operands, ev x = ev' x) (h : fop P ev mem d o K B .mk .mk) : fop P ev' mem d o K B .mk .mk := by
  cases o <;> simp only [Op.operands] at he <;> simp only [fop] at h ⊢
  case move x => rw [← he x (by simp)]; exact h
  case assign x => rw [← he x (by simp)]; exact h
  case pick c x y => rw [← he c (by simp), ← he x (by simp), ← he y (by simp)]; exact h
  case alloc t => exact h
  case box t x => rw [← he x (by simp)]; exact h
  case load t x => rw [← he x (by simp)]; exact h
  case nilCheck x => rw [← he x (by simp)]; exact h
  case binOp op t x y yt => rw [← he x (by simp), ← he y (by simp)]; exact h
  case unOp op t x => rw [← he x (by simp)]; exact h
  case fieldAddr t x i => rw [← he x (by simp)]; exact h
  case field t x i => rw [← he x (by simp)]; exact h
  case indexAddr t x i => rw [← he x (by simp), ← he i (by simp)]; exact h
  case index t x i => rw [← he x (by simp), ← he i (by simp)]; exact h
  case extract x i => rw [← he x (by simp)]; exact h
  case makeSlice t l c => rw [← he l (by simp), ← he c (by simp)]; exact h
  case build t ps =>
    have : (ps.toList.map fun p => (p.1, ev p.2)) = ps.toList.map fun p => (p.1, ev' p.2) := List.map_congr_left fun p hp => by rw [he p.2 (by simp; exact ⟨p.1, by simpa using hp⟩)]
    rw [← this]; exact h
  case buildSlice t n ps =>
    have e1 : (ps.toList.all fun p => decide ((ev p.2).cells.length = sizeT P ((elemT P t).getD 0)) && knownCells (ev p.2)) = (ps.toList.all fun p => decide ((ev' p.2).cells.length = sizeT P ((elemT P t).getD 0)) && knownCells (ev' p.2)) := by
      rw [Bool.eq_iff_iff, List.all_eq_true, List.all_eq_true]
      constructor <;> intro q p hp <;> have := q p hp <;> have e := he p.2 (by simp; exact ⟨p.1, by simpa using hp⟩) <;> first | rw [e] at this; exact this | rw [← e] at this; exact this
    have e2 : (ps.toList.flatMap fun p => (ev p.2).cells) = ps.toList.flatMap fun p => (ev' p.2).cells := by
      have : ∀ l : List (Nat × Operand), (∀ p ∈ l, ev p.2 = ev' p.2) → (l.flatMap fun p => (ev p.2).cells) = l.flatMap fun p => (ev' p.2).cells := by
        intro l
        induction l with
        | nil => intro _; rfl
        | cons a r ih => intro q; simp only [List.flatMap_cons]; rw [q a (by simp), ih fun p hp => q p (by simp [hp])]
      exact this _ fun p hp => he p.2 (by simp; exact ⟨p.1, by simpa using hp⟩)
    cases hz : elemT P t with
    | none => rw [hz] at h; exact h.elim
    | some e =>
      rw [hz] at h e1
      simp only [Option.getD_some] at e1
      simp only [optP] at h ⊢
      rw [← e1, ← e2]; exact h
  case makeFunc f first caps =>
    cases f <;> simp only at h ⊢
    have : caps.toList.map ev = caps.toList.map ev' := List.map_congr_left fun p hp => he p (by simp; exact .inr (by simpa using hp))
    rw [← this]; exact h
  case slice t x lo hi mx =>
    cases mx with
    | some _ => simp only at h
    | none =>
      have h1 : lo.map ev = lo.map ev' := by cases lo with | none => rfl | some l => simp [he l (by simp)]
      have h2 : hi.map ev = hi.map ev' := by cases hi with | none => rfl | some l => simp [he l (by simp)]
      simp only at h ⊢
      rw [← h1, ← h2, ← he x (by simp)]; exact h
  case call c =>
    obtain ⟨callee, args, argTypes⟩ := c
    have ha : args.toList.map ev = args.toList.map ev' := List.map_congr_left fun p hp => he p (by simp [Call.operands]; exact .inr (by simpa using hp))
    cases callee with
    | value x =>
      have hx := he x (by simp [Call.operands])
      unfold callOp at h ⊢
      simp only at h ⊢
      rw [← ha, ← hx]; exact h
    | invoke r m => exact h.elim
    | builtin b =>
      unfold callOp at h ⊢
      cases b <;> try exact h.elim
      simp only at h ⊢
      split at h
      · rename_i x t' ts hx ht
        have := he x (by simp [Call.operands]; rw [← Array.mem_toList_iff, hx]; simp)
        rw [← this]; exact h
      · exact h.elim
end Go.AM
namespace Go.AM
open Go.RowKit (Below)

abbrev Res := AV × Option (List AV)
def app1 (o : Oper) (r : Res) (st : St) : St := match r.2 with | none => st.put o.dst r.1 | some cs => (st.addN o.dst cs).put o.dst r.1
/-- the state in which those operations have been carried out that L names -/
def part : List Oper → List Res → (Nat → Bool) → Nat → St → St
  | o :: os, r :: rs, L, k, st => part os rs L (k + 1) (if L k then app1 o r st else st)
  | _, _, _, _, st => st

def gsel (ops : List Oper) (st : St) (g : Option (Nat × Bool)) : Option Bool :=
  match g with
  | none => some true
  | some (j, b) => match st.frO (dstOf ops j) with | .v (.bool c) => some (c == b) | .v (.tuple _) => some false | _ => none

theorem guardP_sel {ops : List Oper} {st : St} {g : Option (Nat × Bool)} {A B : Prop} (h : guardP ops st g A B) : (gsel ops st g = some true ∧ A) ∨ (gsel ops st g = some false ∧ B) := by
  unfold gsel
  cases g with
  | none => exact .inl ⟨rfl, h⟩
  | some p =>
    obtain ⟨j, b⟩ := p
    simp only [guardP] at h
    simp only
    generalize st.frO (dstOf ops j) = c at h ⊢
    unfold guardQ at h
    split at h
    · cases b <;> rename_i c <;> cases c <;> simp [ifP] at h ⊢ <;> exact h
    · exact .inr ⟨rfl, h⟩
    · exact h.elim

def StepR (P : Program) (ops : List Oper) (mem0 : Nat → Option (List AV)) (o : Oper) (st : St) (r : Res) : Prop :=
  (gsel ops st o.guard = some true ∧ Yld P st.ev mem0 (o.dst.getD 0) o.op r.1 r.2 ∧ (r.2.isSome = true → makesB o.op = true)) ∨ (gsel ops st o.guard = some false ∧ r = (.un, none))
def FlowR (P : Program) (ops : List Oper) (mem0 : Nat → Option (List AV)) : List Oper → List Res → St → Prop
  | [], [], _ => True
  | o :: os, r :: rs, st => StepR P ops mem0 o st r ∧ FlowR P ops mem0 os rs (app1 o r st)
  | _, _, _ => False

theorem flow_extract {P : Program} {ops : List Oper} {mem0 : Nat → Option (List AV)} {K : St → Prop} : ∀ (hd : List Oper) (k : Nat) (st : St), flowOps P ops mem0 hd st K → ∃ rs, FlowR P ops mem0 hd rs st ∧ K (part hd rs (fun _ => true) k st)
  | [], _, st, h => ⟨[], trivial, h⟩
  | o :: os, k, st, h => by
    rcases guardP_sel h with ⟨hg, h1⟩ | ⟨hg, h1⟩
    · obtain ⟨v, b, h2, h3, h4⟩ := fop_pick h1
      cases b with
      | none =>
        obtain ⟨rs, h5, h6⟩ := flow_extract os (k + 1) _ h3
        exact ⟨(v, none) :: rs, ⟨.inl ⟨hg, h2, h4⟩, h5⟩, h6⟩
      | some cs =>
        obtain ⟨rs, h5, h6⟩ := flow_extract os (k + 1) _ h3
        exact ⟨(v, some cs) :: rs, ⟨.inl ⟨hg, h2, h4⟩, h5⟩, h6⟩
    · obtain ⟨rs, h5, h6⟩ := flow_extract os (k + 1) _ h1
      exact ⟨(.un, none) :: rs, ⟨.inr ⟨hg, rfl⟩, h5⟩, h6⟩

theorem flow_len {P : Program} {ops : List Oper} {mem0 : Nat → Option (List AV)} : ∀ {hd : List Oper} {rs : List Res} {st : St}, FlowR P ops mem0 hd rs st → rs.length = hd.length
  | [], [], _, _ => rfl
  | _ :: _, _ :: _, _, h => by simp [flow_len h.2]
  | [], _ :: _, _, h => h.elim
  | _ :: _, [], _, h => h.elim

theorem part_congr : ∀ (hd : List Oper) (rs : List Res) {L M : Nat → Bool} (k : Nat) (st : St), (∀ j, k ≤ j → L j = M j) → part hd rs L k st = part hd rs M k st
  | [], _, _, _, _, _, _ => rfl
  | _ :: _, [], _, _, _, _, _ => rfl
  | o :: os, r :: rs, L, M, k, st, h => by
    simp only [part, h k (Nat.le_refl _)]
    exact part_congr os rs (k + 1) _ fun j hj => h j (by omega)

theorem part_none : ∀ (hd : List Oper) (rs : List Res) {L : Nat → Bool} (k : Nat) (st : St), (∀ j, k ≤ j → L j = false) → part hd rs L k st = st
  | [], _, _, _, _, _ => rfl
  | _ :: _, [], _, _, _, _ => rfl
  | o :: os, r :: rs, L, k, st, h => by
    simp only [part, h k (Nat.le_refl _)]
    exact part_none os rs (k + 1) _ fun j hj => h j (by omega)

theorem flow_step {P : Program} {ops : List Oper} {mem0 : Nat → Option (List AV)} : ∀ {hd : List Oper} {rs : List Res} {st : St} (k : Nat), FlowR P ops mem0 hd rs st → ∀ i o r, hd[i]? = some o → rs[i]? = some r → StepR P ops mem0 o (part hd rs (fun j => decide (j < k + i)) k st) r
  | [], _, _, _, _, i, _, _, h, _ => by simp at h
  | _ :: _, [], _, _, h, _, _, _, _, _ => h.elim
  | o :: os, r :: rs, st, k, h, 0, o', r', h1, h2 => by
    simp at h1 h2
    subst h1; subst h2
    rw [part_none _ _ _ _ (fun j hj => by simp; omega)]
    exact h.1
  | o :: os, r :: rs, st, k, h, i + 1, o', r', h1, h2 => by
    have := flow_step (k + 1) h.2 i o' r' (by simpa using h1) (by simpa using h2)
    simp only [part]
    have e2 : (fun j => decide (j < k + 1 + i)) = fun j => decide (j < k + (i + 1)) := by funext j; congr 1; rw [Nat.add_assoc, Nat.add_comm 1 i]
    rw [e2] at this
    rw [if_pos (by simp)]
    exact this

/-- a slot reads alike where the operations that fill it have been carried out alike -/
theorem part_fr {u : Nat} : ∀ (hd : List Oper) (rs : List Res) {L M : Nat → Bool} (k : Nat) (st st' : St), st.fr u = st'.fr u → (∀ j o, hd[j]? = some o → o.dst = some u → L (k + j) = M (k + j)) → (part hd rs L k st).fr u = (part hd rs M k st').fr u
  | [], _, _, _, _, _, _, h, _ => h
  | _ :: _, [], _, _, _, _, _, h, _ => h
  | o :: os, r :: rs, L, M, k, st, st', h, hL => by
    simp only [part]
    refine part_fr os rs (k + 1) _ _ ?_ fun j o' h1 h2 => by have := hL (j + 1) o' (by simpa using h1) h2; simpa [Nat.add_assoc, Nat.add_comm 1 j] using this
    have key : ∀ s : St, (app1 o r s).fr u = if o.dst = some u then r.1 else s.fr u := by
      intro s
      unfold app1
      split <;> cases hd : o.dst <;> simp [St.put, St.addN, St.setMem]
      all_goals (split <;> split <;> first | rfl | (rename_i a b; exact absurd a.symm b) | (rename_i a b; exact absurd b.symm a))
    by_cases hdst : o.dst = some u
    · have := hL 0 o (by simp) hdst
      simp only [Nat.add_zero] at this
      rw [this]
      cases M k <;> simp [key, hdst, h]
    · cases L k <;> cases M k <;> simp [key, hdst, h]

theorem part_tok : ∀ (hd : List Oper) (rs : List Res) {L : Nat → Bool} (k : Nat) (st : St), (part hd rs L k st).tok = st.tok
  | [], _, _, _, _ => rfl
  | _ :: _, [], _, _, _ => rfl
  | o :: os, r :: rs, L, k, st => by
    simp only [part]
    rw [part_tok os rs (k + 1)]
    split
    · unfold app1; split
      · exact put_tok _ _ _
      · rw [put_tok]; rfl
    · rfl

theorem app1_mem (o : Oper) (r : Res) (st : St) (s : Nat) : (app1 o r st).mem s = match r.2 with | none => st.mem s | some cs => if s = o.dst.getD 0 then some cs else st.mem s := by
  unfold app1
  split
  · rename_i h; simp only [h, put_mem]
  · rename_i cs h; simp only [h, put_mem]; rfl

/-- a block that no operation makes stands as it stood -/
theorem part_mem {s : Nat} : ∀ (hd : List Oper) (rs : List Res) {L : Nat → Bool} (k : Nat) (st : St), (∀ j o r, hd[j]? = some o → rs[j]? = some r → L (k + j) = true → r.2.isSome = true → o.dst.getD 0 ≠ s) → (part hd rs L k st).mem s = st.mem s
  | [], _, _, _, _, _ => rfl
  | _ :: _, [], _, _, _, _ => rfl
  | o :: os, r :: rs, L, k, st, h => by
    simp only [part]
    rw [part_mem os rs (k + 1) _ fun j o' r' h1 h2 h3 h4 => h (j + 1) o' r' (by simpa using h1) (by simpa using h2) (by simpa [Nat.add_assoc, Nat.add_comm 1 j] using h3) h4]
    split
    · rename_i hl
      rw [app1_mem]
      split
      · rfl
      · rename_i cs hc
        have := h 0 o r (by simp) (by simp) (by simpa using hl) (by simp [hc])
        rw [if_neg (fun e => this e.symm)]
    · rfl

theorem app1_comm {o o' : Oper} {r r' : Res} {d d' : Nat} (h : o.dst = some d) (h' : o'.dst = some d') (hne : d ≠ d') (st : St) : app1 o r (app1 o' r' st) = app1 o' r' (app1 o r st) := by
  have e1 : ∀ (x y : Nat → AV), True := fun _ _ => trivial
  unfold app1
  rw [h, h']
  cases r.2 <;> cases r'.2 <;> simp only [St.put, St.addN, St.setMem, Option.getD_some] <;> congr 1 <;> funext i <;> by_cases c1 : i = d <;> by_cases c2 : i = d' <;> simp [c1, c2] <;> omega

theorem part_comm {o : Oper} {r : Res} {d : Nat} (h : o.dst = some d) : ∀ (hd : List Oper) (rs : List Res) {L : Nat → Bool} (k : Nat) (st : St), (∀ o' ∈ hd, ∃ d', o'.dst = some d' ∧ d' ≠ d) → part hd rs L k (app1 o r st) = app1 o r (part hd rs L k st)
  | [], _, _, _, _, _ => rfl
  | _ :: _, [], _, _, _, _ => rfl
  | o' :: os, r' :: rs, L, k, st, hx => by
    obtain ⟨d', h', hne⟩ := hx o' (by simp)
    simp only [part]
    cases L k with
    | true => rw [if_pos rfl, if_pos rfl, app1_comm h' h hne, part_comm h os rs (k + 1) _ fun o'' ho => hx o'' (by simp [ho])]
    | false => exact part_comm h os rs (k + 1) _ fun o'' ho => hx o'' (by simp [ho])

def DistinctD : List Oper → Prop
  | [] => True
  | o :: r => (∃ d, o.dst = some d ∧ ∀ o' ∈ r, ∃ d', o'.dst = some d' ∧ d' ≠ d) ∧ DistinctD r

theorem part_set : ∀ (hd : List Oper) (rs : List Res) {L M : Nat → Bool} (k : Nat) (st : St) (i : Nat) (o : Oper) (r : Res), DistinctD hd → hd[i]? = some o → rs[i]? = some r → L (k + i) = false → M (k + i) = true → (∀ j, j ≠ k + i → M j = L j) →
    part hd rs M k st = app1 o r (part hd rs L k st)
  | [], _, _, _, _, _, _, _, _, _, h, _, _, _, _ => by simp at h
  | _ :: _, [], _, _, _, _, _, _, _, _, _, h, _, _, _ => by simp at h
  | o' :: os, r' :: rs, L, M, k, st, 0, o, r, hdis, h1, h2, h3, h4, h5 => by
    simp at h1 h2
    subst h1; subst h2
    obtain ⟨d, hd, hx⟩ := hdis.1
    simp only [Nat.add_zero] at h3 h4 h5
    simp only [part, h3, h4, if_true]
    rw [part_congr os rs (k + 1) _ (M := L) fun j hj => h5 j (by omega)]
    exact part_comm hd os rs (k + 1) st hx
  | o' :: os, r' :: rs, L, M, k, st, i + 1, o, r, hdis, h1, h2, h3, h4, h5 => by
    have hk : M k = L k := h5 k (by omega)
    simp only [part, hk]
    exact part_set os rs (k + 1) _ i o r hdis.2 (by simpa using h1) (by simpa using h2) (by simpa [Nat.add_assoc, Nat.add_comm 1 i] using h3) (by simpa [Nat.add_assoc, Nat.add_comm 1 i] using h4) fun j hj => h5 j (by omega)

/-! ### the form that is asked of a region -/
def bindOn (o : Oper) : List Nat := (o.after.toList.filter fun e => Region.binds .any e).map (·.on)
def ancT : List Oper → List (List Nat) → List (List Nat)
  | [], acc => acc
  | o :: r, acc => ancT r (acc ++ [(bindOn o ++ (bindOn o).flatMap fun j => acc.getD j []).eraseDups])
def looks (ops : List Oper) (o : Oper) : List Nat :=
  (o.op.operands.toList.filterMap fun | .tmp t => some t | _ => none) ++ (match o.guard with | some (j, _) => (dstOf ops j).toList | none => [])
def distinctB : List Oper → Bool
  | [] => true
  | o :: r => (match o.dst with | some d => (r.all fun o' => match o'.dst with | some d' => d' != d | none => false) | none => false) && distinctB r
def depsB (ops hd : List Oper) (tbl : List (List Nat)) : Bool :=
  hd.zipIdx.all fun p => (bindOn p.1).all (fun j => decide (j < p.2)) && (looks ops p.1).all fun u => hd.zipIdx.all fun q => !(q.1.dst == some u) || (decide (q.2 < p.2) && (tbl.getD p.2 []).contains q.2)
def firstN (size n : Nat) : Array Bool := (Array.range size).map fun j => decide (j < n)
def drawOk (ops : List Oper) : Bool :=
  distinctB (headOps ops) && depsB ops (headOps ops) (ancT (headOps ops) []) &&
  (match tailOps ops with | [] => true | _ => Region.sinkB .any ops.toArray (headOps ops).length && Region.chainB .any ops.toArray (headOps ops).length) &&
  Region.seqB .any ops.toArray (tailOps ops).length (headOps ops).length (firstN ops.length (headOps ops).length)

theorem distinctB_spec : ∀ {hd : List Oper}, distinctB hd = true → DistinctD hd
  | [], _ => trivial
  | o :: r, h => by
    simp only [distinctB, Bool.and_eq_true] at h
    refine ⟨?_, distinctB_spec h.2⟩
    cases hd : o.dst with
    | none => rw [hd] at h; exact absurd h.1 (by simp)
    | some d =>
      rw [hd] at h
      refine ⟨d, rfl, fun o' ho => ?_⟩
      have := List.all_eq_true.1 h.1 o' ho
      cases hd' : o'.dst with
      | none => rw [hd'] at this; simp at this
      | some d' => rw [hd'] at this; exact ⟨d', rfl, by simpa using this⟩

theorem head_tail : ∀ ops : List Oper, headOps ops ++ tailOps ops = ops
  | [] => rfl
  | o :: r => by
    simp only [headOps, tailOps]
    split
    · rfl
    · rw [List.cons_append, head_tail r]

theorem mem_bindOn {o : Oper} {j : Nat} : j ∈ bindOn o ↔ ∃ e ∈ o.after, Region.binds .any e = true ∧ e.on = j := by
  unfold bindOn
  simp only [List.mem_map, List.mem_filter]
  constructor
  · rintro ⟨e, ⟨h1, h2⟩, h3⟩; exact ⟨e, by simpa using h1, h2, h3⟩
  · rintro ⟨e, h1, h2, h3⟩; exact ⟨e, ⟨by simpa using h1, h2⟩, h3⟩

/-- what the table of forerunners says -/
theorem ancT_spec (L : Nat → Bool) (all : List Oper) (hclosed : ∀ j o, all[j]? = some o → L j = true → ∀ q ∈ bindOn o, L q = true) : ∀ (l : List Oper) (acc : List (List Nat)) (k : Nat), acc.length = k → (∀ j, l[j]? = all[k + j]?) → (∀ i o, i < k → all[i]? = some o → (∀ q ∈ bindOn o, L q = true) → ∀ x ∈ acc.getD i [], L x = true) →
    ∀ i o, i < k + l.length → all[i]? = some o → (∀ q ∈ bindOn o, L q = true) → ∀ x ∈ (ancT l acc).getD i [], L x = true
  | [], acc, k, _, _, h, i, o, hi, ho, hq => by simp at hi; exact h i o hi ho hq
  | o' :: r, acc, k, hk, hl, h, i, o, hi, ho, hq => by
    have h0 : all[k]? = some o' := by have := hl 0; simpa using this.symm
    refine ancT_spec L all hclosed r _ (k + 1) (by simp [hk]) (fun j => by have := hl (j + 1); simpa [Nat.add_assoc, Nat.add_comm 1 j] using this) ?_ i o (by simp at hi ⊢; omega) ho hq
    intro i' o'' hi' ho'' hq' x hx
    by_cases hik : i' < k
    · rw [List.getD_eq_getElem?_getD, List.getElem?_append_left (by omega), ← List.getD_eq_getElem?_getD] at hx
      exact h i' o'' hik ho'' hq' x hx
    · have : i' = k := by omega
      subst this
      rw [h0] at ho''
      cases ho''
      rw [List.getD_eq_getElem?_getD, List.getElem?_append_right (by omega), ← List.getD_eq_getElem?_getD] at hx
      have e : i' - acc.length = 0 := by omega
      rw [e] at hx
      simp only [List.getD_cons_zero, List.mem_eraseDups, List.mem_append, List.mem_flatMap] at hx
      rcases hx with hx | ⟨j, hj, hx⟩
      · exact hq' x hx
      · rcases Nat.lt_or_ge j i' with hjk | hjk
        · cases hoj : all[j]? with
          | none =>
            have h1 := List.getElem?_eq_none_iff.1 hoj
            have h2 := (List.getElem?_eq_some_iff.1 h0).1
            omega
          | some oj => exact h j oj hjk hoj (fun q hq2 => hclosed j oj hoj (hq' j hj) q hq2) x hx
        · rw [List.getD_eq_getElem?_getD, List.getElem?_eq_none (by omega)] at hx; cases hx
end Go.AM
namespace Go.AM
open Go.RowKit (Below)

section
variable {P : Program} {N : Nat} {w0 : World} {I0 : Gh}

theorem part_congr' : ∀ (hd : List Oper) (rs : List Res) {L M : Nat → Bool} (k : Nat) (st : St), (∀ j, k ≤ j → j < k + hd.length → L j = M j) → part hd rs L k st = part hd rs M k st
  | [], _, _, _, _, _, _ => rfl
  | _ :: _, [], _, _, _, _, _ => rfl
  | o :: os, r :: rs, L, M, k, st, h => by
    simp only [part, h k (Nat.le_refl _) (by simp)]
    exact part_congr' os rs (k + 1) _ fun j hj hj' => h j (by omega) (by simp; omega)

theorem killNew_mem {s : Nat} : ∀ (hd : List Oper) (st : St), (∀ o ∈ hd, makesB o.op = true → o.dst.getD 0 ≠ s) ∨ (killNew hd st).mem s = none
  | [], _ => .inl (fun _ h => by cases h)
  | o :: r, st => by
    have keep : ∀ (r : List Oper) (st : St), st.mem s = none → (killNew r st).mem s = none := by
      intro r
      induction r with
      | nil => intro st h; exact h
      | cons o r ih =>
        intro st h
        simp only [killNew]
        split
        · exact ih _ (by simp [St.kill, h])
        · exact ih _ h
    simp only [killNew]
    split
    · rename_i hm
      by_cases hs : o.dst.getD 0 = s
      · exact .inr (keep r _ (by simp [St.kill, hs]))
      · rcases killNew_mem r (st.kill (o.dst.getD 0)) with h | h
        · exact .inl fun o' ho hm' => by
            rcases List.mem_cons.1 ho with rfl | ho
            · exact hs
            · exact h o' ho hm'
        · exact .inr h
    · rename_i hm
      rcases killNew_mem r st with h | h
      · exact .inl fun o' ho hm' => by
          rcases List.mem_cons.1 ho with rfl | ho
          · rw [hm] at hm'; cases hm'
          · exact h o' ho hm'
      · exact .inr h

theorem conc_killNew {a : Act} {w : World} {I : Gh} {hs : Nat → Nat → Value} : ∀ (hd : List Oper) (st : St) (ρ : Nat → Nat), Conc P N w0 I0 st a w I ρ hs →
    ∀ ρ' : Nat → Nat, (∀ s, ρ' s = ρ s ∨ ∃ o ∈ hd, makesB o.op = true ∧ o.dst.getD 0 = s) → Conc P N w0 I0 (killNew hd st) a w I ρ' hs
  | [], st, ρ, c, ρ', h => by
    have : ρ' = ρ := by funext s; rcases h s with h | ⟨o, ho, _⟩; exact h; cases ho
    rw [this]; exact c
  | o :: r, st, ρ, c, ρ', h => by
    simp only [killNew]
    split
    · rename_i hm
      let D := o.dst.getD 0
      refine conc_killNew r _ (fun s => if s = D then ρ' D else ρ s) (c.kill D (fun s hs => by simp [hs]) (fun _ _ => rfl)) ρ' fun s => ?_
      by_cases hs : s = D
      · left; simp [hs]
      · simp only [hs, if_false]
        rcases h s with h | ⟨o', ho, hm', he⟩
        · exact .inl h
        · rcases List.mem_cons.1 ho with rfl | ho
          · exact absurd he.symm hs
          · exact .inr ⟨o', ho, hm', he⟩
    · rename_i hm
      refine conc_killNew r _ ρ c ρ' fun s => ?_
      rcases h s with h | ⟨o', ho, hm', he⟩
      · exact .inl h
      · rcases List.mem_cons.1 ho with rfl | ho
        · rw [hm] at hm'; cases hm'
        · exact .inr ⟨o', ho, hm', he⟩

theorem guardP_of_gsel {ops : List Oper} {st : St} {g : Option (Nat × Bool)} {b : Bool} (h : gsel ops st g = some b) : guardP ops st g (b = true) (b = false) := by
  unfold gsel at h
  cases g with
  | none => cases h; rfl
  | some p =>
    obtain ⟨j, b'⟩ := p
    simp only at h
    simp only [guardP]
    generalize st.frO (dstOf ops j) = c at h ⊢
    unfold guardQ
    split at h
    · cases h
      rename_i c
      cases b' <;> cases c <;> simp [ifP]
    · cases h; rfl
    · cases h

theorem gsel_congr {ops : List Oper} {st st' : St} {o : Oper} (h : ∀ u ∈ looks ops o, st.fr u = st'.fr u) : gsel ops st o.guard = gsel ops st' o.guard := by
  unfold gsel
  cases hg : o.guard with
  | none => rfl
  | some p =>
    obtain ⟨j, b⟩ := p
    simp only
    have : st.frO (dstOf ops j) = st'.frO (dstOf ops j) := by
      cases hd : dstOf ops j with
      | none => rfl
      | some t => exact h t (by unfold looks; rw [hg]; simp [hd])
    rw [this]

theorem ev_congr {ops : List Oper} {st st' : St} {o : Oper} (h : ∀ u ∈ looks ops o, st.fr u = st'.fr u) : ∀ x ∈ o.op.operands, st.ev x = st'.ev x := by
  intro x hx
  cases x with
  | tmp t => exact h t (by unfold looks; rw [List.mem_append]; left; rw [List.mem_filterMap]; exact ⟨.tmp t, by simpa using hx, rfl⟩)
  | const v => rfl
  | func f => rfl
  | global g => rfl

theorem distinct_ne : ∀ {hd : List Oper}, DistinctD hd → ∀ {i j : Nat} {o o' : Oper}, hd[i]? = some o → hd[j]? = some o' → i ≠ j → ∃ d d', o.dst = some d ∧ o'.dst = some d' ∧ d ≠ d'
  | [], _, i, _, _, _, h, _, _ => by simp at h
  | x :: r, hd, 0, 0, o, o', _, _, hne => absurd rfl hne
  | x :: r, hd, 0, j + 1, o, o', h1, h2, _ => by
    simp at h1 h2; subst h1
    obtain ⟨d, e, hx⟩ := hd.1
    obtain ⟨d', e', hne⟩ := hx o' (List.mem_of_getElem? h2)
    exact ⟨d, d', e, e', Ne.symm hne⟩
  | x :: r, hd, i + 1, 0, o, o', h1, h2, _ => by
    simp at h1 h2; subst h2
    obtain ⟨d, e, hx⟩ := hd.1
    obtain ⟨d', e', hne⟩ := hx o (List.mem_of_getElem? h1)
    exact ⟨d', d, e', e, hne⟩
  | x :: r, hd, i + 1, j + 1, o, o', h1, h2, hne => distinct_ne hd.2 (by simpa using h1) (by simpa using h2) (by omega)
theorem distinct_some : ∀ {hd : List Oper}, DistinctD hd → ∀ {i : Nat} {o : Oper}, hd[i]? = some o → ∃ d, o.dst = some d
  | [], _, i, _, h => by simp at h
  | x :: r, hd, 0, o, h => by simp at h; subst h; exact ⟨_, hd.1.choose_spec.1⟩
  | x :: r, hd, i + 1, o, h => distinct_some hd.2 (by simpa using h)

def lst (listed : Array Bool) : Nat → Bool := fun j => listed.getD j false
def Fresh (hd : List Oper) (listed : Array Bool) (s : Nat) : Prop := ∃ j o, hd[j]? = some o ∧ makesB o.op = true ∧ lst listed j = false ∧ o.dst = some s

/-- the invariant of the draw -/
def InvD (P : Program) (N : Nat) (w0 : World) (I0 : Gh) (hd : List Oper) (rs : List Res) (st1 : St) (listed : Array Bool) (a : Act) (w : World) : Prop :=
  ∃ (I : Gh) (ρ : Nat → Nat) (hs : Nat → Nat → Value), ∀ ρ' : Nat → Nat, (∀ s, ρ' s = ρ s ∨ Fresh hd listed s) → Conc P N w0 I0 (part hd rs (lst listed) 0 st1) a w I ρ' hs

theorem MemOk.sub {I : Gh} {ρ : Nat → Nat} {hs : Nat → Nat → Value} {base : Nat} {mem mem' : Nat → Option (List AV)} {w : World} (m : MemOk I ρ hs base mem w) (h : ∀ s cs, mem' s = some cs → mem s = some cs) : MemOk I ρ hs base mem' w :=
  ⟨fun s cs e => m.row s cs (h s cs e), fun s cs e => m.lo s cs (h s cs e), fun s cs e => m.free s cs (h s cs e), fun s s' cs cs' e e' => m.inj s s' cs cs' (h s cs e) (h s' cs' e')⟩

/-- ONE STEP OF THE DRAW -/
theorem draw_step {ops : List Oper} {hd : List Oper} {rs : List Res} {st0 : St} {listed : Array Bool} {a : Act} {w : World} {Q : Exit → Act → World → Prop} {o : Oper} {r : Res} {i : Nat}
    (hdis : DistinctD hd) (hN : ∀ t, o.dst = some t → t < N) (ho : hd[i]? = some o) (hr : rs[i]? = some r) (hun : lst listed i = false) (hlen : rs.length = hd.length) (hmk : ∀ (j : Nat) (o : Oper) (r : Res), hd[j]? = some o → rs[j]? = some r → r.2.isSome = true → makesB o.op = true)
    (hst : StepR P ops (killNew hd st0).mem o (part hd rs (lst listed) 0 (killNew hd st0)) r) (hsz : i < listed.size)
    (inv : InvD P N w0 I0 hd rs (killNew hd st0) listed a w) :
    if Region.wanted o (yielded ops.toArray a.tmps) = true then o.wp P a w (InvD P N w0 I0 hd rs (killNew hd st0) (listed.setIfInBounds i true)) Q else InvD P N w0 I0 hd rs (killNew hd st0) (listed.setIfInBounds i true) (a.put o.dst undef) w := by
  obtain ⟨I, ρ, hs, H⟩ := inv
  obtain ⟨D, hD⟩ := distinct_some hdis ho
  have hself : ∀ s, ρ s = ρ s ∨ Fresh hd listed s := fun s => .inl rfl
  have c := H ρ hself
  have hne : ∀ j, j ≠ i → lst (listed.setIfInBounds i true) j = lst listed j := fun j hj => getD_set_ne false (Ne.symm hj)
  have hi : lst (listed.setIfInBounds i true) i = true := by simp [lst, hsz]
  have hset : part hd rs (lst (listed.setIfInBounds i true)) 0 (killNew hd st0) = app1 o r (part hd rs (lst listed) 0 (killNew hd st0)) :=
    part_set hd rs 0 _ i o r hdis ho hr (by simpa using hun) (by simpa using hi) (fun j hj => hne j (by simpa using hj))
  have hfr : ∀ s, Fresh hd (listed.setIfInBounds i true) s → Fresh hd listed s ∧ s ≠ D := by
    rintro s ⟨j, o', h1, h2, h3, h4⟩
    have hji : j ≠ i := fun e => by subst e; rw [hi] at h3; cases h3
    refine ⟨⟨j, o', h1, h2, by rw [← hne j hji]; exact h3, h4⟩, ?_⟩
    obtain ⟨d, d', e1, e2, e3⟩ := distinct_ne hdis h1 ho hji
    rw [h4] at e1; rw [hD] at e2; cases e1; cases e2; exact e3
  have hmem0 : ∀ s cs, (killNew hd st0).mem s = some cs → (part hd rs (lst listed) 0 (killNew hd st0)).mem s = some cs := by
    intro s cs h
    rcases killNew_mem (s := s) hd st0 with hk | hk
    · rw [part_mem hd rs 0 _ fun j o' r' h1 h2 _ h4 => hk o' (List.mem_of_getElem? h1) (hmk j o' r' h1 h2 h4)]; exact h
    · rw [hk] at h; cases h
  rcases hst with ⟨hg, hy, hmb⟩ | ⟨hg, hr0⟩
  · have hw : Region.wanted o (yielded ops.toArray a.tmps) = true := by
      rcases guard_sound c ops o (guardP_of_gsel hg) with ⟨h, _⟩ | ⟨_, h⟩
      · exact h
      · cases h
    rw [if_pos hw]
    obtain ⟨dst, op, ty, pos, after, g⟩ := o
    simp only at hD hy hmb hg
    subst hD
    unfold Yld at hy
    simp only [Option.getD_some] at hy
    cases hcall : isCallV op with
    | true =>
      refine Oper.wp_mono ?_ (callV_sound (base := w0.heap.size) (d := some D) ⟨c.held, c.ev, c.mem.sub hmem0⟩ hcall hy)
      rintro a' w' ⟨v, x, I', rfl, ⟨rfl, hr2⟩, rv, gr⟩
      refine ⟨I', ρ, hs, fun ρ' hρ' => ?_⟩
      rw [hset]
      have c' := H ρ' fun s => (hρ' s).imp id fun h => (hfr s h).1
      have : app1 ⟨some D, op, ty, pos, after, g⟩ r (part hd rs (lst listed) 0 (killNew hd st0)) = (part hd rs (lst listed) 0 (killNew hd st0)).put (some D) r.1 := by
        unfold app1; rw [hr2]
      rw [this]
      exact (c'.grow gr).put _ hN (.stat rv)
    | false =>
      obtain ⟨x, w', hrun, hres⟩ := fop_run (base := w0.heap.size) (d := some D) (t := ty) (pos := pos) (after := after) (g := g) ⟨c.held, c.ev, c.mem.sub hmem0⟩ hcall hy
      refine wp_value hrun ?_
      have all : ∀ ρ', (∀ s, ρ' s = ρ s ∨ Fresh hd listed s) → FRes I ρ' hs (some D) w (fun v' => v' = r.1 ∧ r.2 = none) (fun v' cs => v' = r.1 ∧ r.2 = some cs) x w' := by
        intro ρ' h
        have c' := H ρ' h
        obtain ⟨x1, w1, hrun1, hres1⟩ := fop_run (base := w0.heap.size) (d := some D) (t := ty) (pos := pos) (after := after) (g := g) ⟨c'.held, c'.ev, c'.mem.sub hmem0⟩ hcall hy
        rw [hrun] at hrun1
        cases hrun1
        exact hres1
      cases hr2 : r.2 with
      | none =>
        have hw' : w' = w := by
          rcases hres with ⟨_, _, _, h⟩ | ⟨_, _, _, _, ⟨_, h⟩, _⟩
          · exact h
          · rw [hr2] at h; cases h
        subst hw'
        refine ⟨I, ρ, hs, fun ρ' hρ' => ?_⟩
        rw [hset]
        have hρ0 : ∀ s, ρ' s = ρ s ∨ Fresh hd listed s := fun s => (hρ' s).imp id fun h => (hfr s h).1
        have e1 : app1 ⟨some D, op, ty, pos, after, g⟩ r (part hd rs (lst listed) 0 (killNew hd st0)) = (part hd rs (lst listed) 0 (killNew hd st0)).put (some D) r.1 := by
          unfold app1; rw [hr2]
        rw [e1]
        rcases all ρ' hρ0 with ⟨v, ⟨rfl, _⟩, hrep, _⟩ | ⟨_, _, _, _, ⟨_, h⟩, _⟩
        · exact (H ρ' hρ0).put _ hN hrep
        · rw [hr2] at h; cases h
      | some cs =>
        have hmake : makesB op = true := hmb (by rw [hr2]; rfl)
        have hDf : Fresh hd listed D := ⟨i, _, ho, hmake, hun, rfl⟩
        have hDn : ¬ Fresh hd (listed.setIfInBounds i true) D := fun h => (hfr D h).2 rfl
        refine ⟨I, fun s => if s = D then w.heap.size else ρ s, hs, fun ρ' hρ' => ?_⟩
        rw [hset]
        have hρD : ρ' D = w.heap.size := by
          rcases hρ' D with h | h
          · simpa using h
          · exact absurd h hDn
        have hρ0 : ∀ s, ρ' s = ρ s ∨ Fresh hd listed s := fun s => by
          by_cases hs : s = D
          · right; rw [hs]; exact hDf
          · rcases hρ' s with h | h
            · left; simpa [hs] using h
            · right; exact (hfr s h).1
        have c' := H ρ' hρ0
        have e1 : app1 ⟨some D, op, ty, pos, after, g⟩ r (part hd rs (lst listed) 0 (killNew hd st0)) = ((part hd rs (lst listed) 0 (killNew hd st0)).setMem D cs).put (some D) r.1 := by
          unfold app1; rw [hr2]; rfl
        rw [e1]
        have hno : (part hd rs (lst listed) 0 (killNew hd st0)).mem D = none := by
          rw [part_mem hd rs 0 _ fun j o' r' h1 h2 h3 h4 => ?_]
          · rcases killNew_mem (s := D) hd st0 with hk | hk
            · exact absurd rfl (hk _ (List.mem_of_getElem? ho) hmake)
            · exact hk
          · have hji : j ≠ i := fun e => by subst e; rw [Nat.zero_add, hun] at h3; cases h3
            obtain ⟨d, d', q1, q2, q3⟩ := distinct_ne hdis h1 ho hji
            simp only [Option.some.injEq] at q2
            rw [q1, q2]
            exact q3
        rcases all ρ' hρ0 with ⟨_, ⟨_, h⟩, _⟩ | ⟨v, cs', arr, E, ⟨rfl, hcs⟩, rfl, hn, hrep, hv⟩
        · rw [hr2] at h; cases h
        · rw [hr2] at hcs
          cases hcs
          have hfree : ∀ o, I w.heap.size o = none := fun o => by
            cases hx : I w.heap.size o with
            | none => rfl
            | some x => have := c'.held.lt hx; omega
          refine ((c'.alloc arr E).setNew hρD hno (heap_new w _) c'.below.size hfree ?_ ?_ hn hrep).put _ hN ?_
          · intro s cs' h
            have := mem_lt c'.mem h; omega
          · intro s n e h b hb
            obtain ⟨_, xs, hx⟩ := c'.tok.row s n e h
            have := (hx.lt b hb).2; omega
          · simp only [Option.getD_some] at hv
            rcases hv with ⟨h1, rfl⟩ | ⟨z, n, h1, rfl⟩
            · rw [h1, ← hρD]; exact .loc _ _
            · rw [h1, ← hρD]; exact .own _ _ _
  · have hw : Region.wanted o (yielded ops.toArray a.tmps) = false := by
      rcases guard_sound c ops o (guardP_of_gsel hg) with ⟨_, h⟩ | ⟨h, _⟩
      · cases h
      · exact h
    rw [if_neg (by simp [hw])]
    refine ⟨I, ρ, hs, fun ρ' hρ' => ?_⟩
    rw [hset, hr0]
    exact (H ρ' fun s => (hρ' s).imp id fun h => (hfr s h).1).put _ hN (.stat (.v _))

theorem depsB_spec {ops hd : List Oper} {tbl : List (List Nat)} (h : depsB ops hd tbl = true) {i : Nat} {o : Oper} (ho : hd[i]? = some o) :
    (∀ j ∈ bindOn o, j < i) ∧ ∀ u ∈ looks ops o, ∀ (j : Nat) (oj : Oper), hd[j]? = some oj → oj.dst = some u → j < i ∧ j ∈ tbl.getD i [] := by
  have hm : ∀ {j : Nat} {oj : Oper}, hd[j]? = some oj → (oj, j) ∈ hd.zipIdx := fun h => List.mem_zipIdx_iff_getElem?.2 h
  have h1 := List.all_eq_true.1 h (o, i) (hm ho)
  simp only [Bool.and_eq_true] at h1
  refine ⟨fun j hj => by simpa using List.all_eq_true.1 h1.1 j hj, fun u hu j oj hoj hd' => ?_⟩
  have h2 := List.all_eq_true.1 (List.all_eq_true.1 h1.2 u hu) (oj, j) (hm hoj)
  simpa [hd'] using h2

/-- WHATEVER ORDER IS DRAWN -/
theorem draw_go {ops : List Oper} {rs : List Res} {st0 : St} {K : St → Prop} {Q : Exit → Act → World → Prop} (hQ : ∀ a' w', AOut P N w0 I0 K a' w' → Q .normal a' w')
    (hd : ∀ o ∈ ops, ∀ t, o.dst = some t → t < N) (hok : drawOk ops = true) (hlen : rs.length = (headOps ops).length)
    (hflow : FlowR P ops (killNew (headOps ops) st0).mem (headOps ops) rs (killNew (headOps ops) st0))
    (hK : seqOps P ops (tailOps ops) (part (headOps ops) rs (fun _ => true) 0 (killNew (headOps ops) st0)) K) :
    ∀ (m : Nat) (U : List Nat) (listed : Array Bool) (a : Act) (w : World), U.length = m → U.Nodup → (∀ j, j ∈ U ↔ j < (headOps ops).length ∧ lst listed j = false) →
      HeadInv .any ops.toArray (headOps ops).length listed → InvD P N w0 I0 (headOps ops) rs (killNew (headOps ops) st0) listed a w → wpAny P .any ops.toArray Q (m + (tailOps ops).length) listed a w := by
  unfold drawOk at hok
  simp only [Bool.and_eq_true] at hok
  obtain ⟨⟨⟨hdis, hdeps⟩, htail⟩, hseq⟩ := hok
  have hdis := distinctB_spec hdis
  have hht := head_tail ops
  have hhd : ∀ {j : Nat} {o : Oper}, (headOps ops)[j]? = some o → ops[j]? = some o := fun {j o} h => by
    rw [← hht, List.getElem?_append_left (List.getElem?_eq_some_iff.1 h).1]; exact h
  have hdh : ∀ {j : Nat}, j < (headOps ops).length → ops[j]? = (headOps ops)[j]? := fun {j} h => by
    conv => lhs; rw [← hht]
    rw [List.getElem?_append_left h]
  have htl : ∀ j, (tailOps ops)[j]? = ops.toArray[(headOps ops).length + j]? := fun j => by
    rw [List.getElem?_toArray]
    have := List.getElem?_append_right (l₁ := headOps ops) (l₂ := tailOps ops) (i := (headOps ops).length + j) (by omega)
    rw [hht] at this
    rw [this]; congr 1; omega
  have hol : ops.length = (headOps ops).length + (tailOps ops).length := by
    conv => lhs; rw [← hht]
    rw [List.length_append]
  have hmk : ∀ (hd : List Oper) (rs : List Res) (st : St), FlowR P ops (killNew (headOps ops) st0).mem hd rs st → ∀ (j : Nat) (o : Oper) (r : Res), hd[j]? = some o → rs[j]? = some r → r.2.isSome = true → makesB o.op = true := by
    intro hd rs st h j o r h1 h2 h3
    rcases flow_step 0 h j o r h1 h2 with ⟨_, _, hm⟩ | ⟨_, hr⟩
    · exact hm h3
    · rw [hr] at h3; cases h3
  intro m
  induction m with
  | zero =>
    intro U listed a w hU _ hUm inv ⟨I, ρ, hs, H⟩
    have hU0 : U = [] := List.eq_nil_of_length_eq_zero hU
    have hall : ∀ j, j < (headOps ops).length → lst listed j = true := fun j hj => by
      cases h : lst listed j with
      | true => rfl
      | false => have := (hUm j).2 ⟨hj, h⟩; rw [hU0] at this; cases this
    have hlist : listed = firstN ops.length (headOps ops).length := by
      apply Array.ext
      · simp [firstN, inv.size]
      · intro j h1 h2
        have hj : j < ops.length := by simpa [inv.size] using h1
        simp only [firstN, Array.getElem_map, Array.getElem_range]
        by_cases hjn : j < (headOps ops).length
        · have := hall j hjn
          simp only [lst, Array.getD_eq_getD_getElem?, Array.getElem?_eq_getElem h1, Option.getD_some] at this
          rw [this]; simp [hjn]
        · have := inv.tail j (by omega) (by simpa using hj)
          simp only [Array.getD_eq_getD_getElem?, Array.getElem?_eq_getElem h1, Option.getD_some] at this
          rw [this]; simp [hjn]
    have hc := H ρ fun s => .inl rfl
    rw [part_congr' (headOps ops) rs (M := fun _ => true) 0 _ fun j _ hj => hall j (by simpa using hj)] at hc
    rw [Nat.zero_add]
    refine wpAny_of_seq (tailOps ops) (headOps ops).length listed a w htl (by rw [hlist]; exact hseq) ?_
    exact seqOps_sound hQ ops (tailOps ops) _ a w (fun o ho => hd o (by rw [← hht]; exact List.mem_append_right _ ho)) hK ⟨I, ρ, hs, hc⟩
  | succ m ih =>
    intro U listed a w hU hnd hUm inv hinv
    rw [show m + 1 + (tailOps ops).length = (m + (tailOps ops).length) + 1 by omega]
    have hun : ∃ i0, i0 < (headOps ops).length ∧ lst listed i0 = false := by
      cases U with
      | nil => cases hU
      | cons x _ => exact ⟨x, (hUm x).1 (by simp)⟩
    -- the first that is not listed is ready
    have hmin : ∃ i0, i0 < (headOps ops).length ∧ lst listed i0 = false ∧ ∀ j, j < i0 → lst listed j = true := by
      obtain ⟨i0, h1, h2⟩ := hun
      induction i0 using Nat.strongRecOn with
      | _ i0 ih0 =>
        by_cases hx : ∃ j, j < i0 ∧ lst listed j = false
        · obtain ⟨j, hj, hj2⟩ := hx
          exact ih0 j hj (by omega) hj2
        · refine ⟨i0, h1, h2, fun j hj => ?_⟩
          cases h : lst listed j with
          | true => rfl
          | false => exact absurd ⟨j, hj, h⟩ hx
    have hin : ∀ {j : Nat}, j < (headOps ops).length → j < listed.size := fun h => by rw [inv.size]; simp; omega
    refine ⟨fun h0 => ?_, fun i hi => ?_⟩
    · obtain ⟨i0, h1, h2, h3⟩ := hmin
      have ho : (headOps ops)[i0]? = some ((headOps ops)[i0]) := List.getElem?_eq_getElem h1
      have : i0 ∈ Region.ready .any ops.toArray listed := by
        rw [mem_ready]
        refine ⟨getD_in (hin h1) h2, (headOps ops)[i0], by rw [List.getElem?_toArray]; exact hhd ho, fun e he hb => ?_⟩
        exact h3 _ ((depsB_spec hdeps ho).1 e.on (mem_bindOn.2 ⟨e, he, hb, rfl⟩))
      rw [h0] at this; cases this
    · have hin' : i < (headOps ops).length := by
        rcases Nat.lt_or_ge i (headOps ops).length with h | h
        · exact h
        · obtain ⟨_, oi, hoi, _⟩ := mem_ready.1 hi
          have hlt := (Array.getElem?_eq_some_iff.1 hoi).1
          simp only [List.size_toArray] at hlt
          cases htl' : tailOps ops with
          | nil => rw [htl'] at hol; simp at hol; omega
          | cons o r =>
            rw [htl'] at htail hol
            simp only [Bool.and_eq_true] at htail
            obtain ⟨i0, h1, h2⟩ := hun
            exact absurd hi (tail_waits htail.1 htail.2 (by simp; simp at hol; omega) inv _ i0 rfl h1 (getD_in (hin h1) h2) i h)
      obtain ⟨hiun, oi, hoi, hall⟩ := mem_ready.1 hi
      have ho : (headOps ops)[i]? = some oi := by rw [← hdh hin', ← List.getElem?_toArray]; exact hoi
      have hr : rs[i]? = some (rs[i]'(by omega)) := List.getElem?_eq_getElem _
      generalize rs[i]'(by omega) = r at hr
      have hst := flow_step 0 hflow i oi r ho hr
      have hun' : lst listed i = false := getD_both hiun
      obtain ⟨hb, hl⟩ := depsB_spec hdeps ho
      have hclosed : ∀ j o, (headOps ops)[j]? = some o → lst listed j = true → ∀ q ∈ bindOn o, lst listed q = true := fun j o h1 h2 q hq => by
        obtain ⟨e, he, hbd, rfl⟩ := mem_bindOn.1 hq
        exact inv.closed j o (by rw [List.getElem?_toArray]; exact hhd h1) h2 e he hbd
      have hlook : ∀ u ∈ looks ops oi, (part (headOps ops) rs (fun j => decide (j < 0 + i)) 0 (killNew (headOps ops) st0)).fr u = (part (headOps ops) rs (lst listed) 0 (killNew (headOps ops) st0)).fr u := fun u hu => by
        refine part_fr (headOps ops) rs 0 _ _ rfl fun j oj h1 h2 => ?_
        obtain ⟨h3, h4⟩ := hl u hu j oj h1 h2
        have := ancT_spec (lst listed) (headOps ops) hclosed (headOps ops) [] 0 rfl (fun j => by simp) (fun i o hi => by omega) i oi (by simpa using hin') ho (fun q hq => by
          obtain ⟨e, he, hbd, rfl⟩ := mem_bindOn.1 hq
          exact hall e he hbd) j h4
        rw [Nat.zero_add, this]; simp [h3]
      have hst' : StepR P ops (killNew (headOps ops) st0).mem oi (part (headOps ops) rs (lst listed) 0 (killNew (headOps ops) st0)) r := by
        unfold StepR at hst ⊢
        rw [← gsel_congr hlook]
        rcases hst with ⟨h1, h2, h3⟩ | h
        · exact .inl ⟨h1, fop_congr (ev_congr hlook) h2, h3⟩
        · exact .inr h
      have step := draw_step (Q := Q) hdis (fun t ht => hd oi (by rw [← hht]; exact List.mem_append_left _ (List.mem_of_getElem? ho)) t ht) ho hr hun' hlen (hmk _ _ _ hflow) hst' (hin hin') hinv
      have next : ∀ a' w', InvD P N w0 I0 (headOps ops) rs (killNew (headOps ops) st0) (listed.setIfInBounds i true) a' w' → wpAny P .any ops.toArray Q (m + (tailOps ops).length) (listed.setIfInBounds i true) a' w' := fun a' w' h => by
        refine ih (U.erase i) _ a' w' (by rw [List.length_erase_of_mem ((hUm i).2 ⟨hin', hun'⟩), hU]; rfl) (hnd.erase i) (fun j => ?_) (inv.set hi hin') h
        rw [hnd.mem_erase_iff, hUm]
        by_cases hj : j = i
        · subst hj
          simp [lst, hin hin']
        · have : lst (listed.setIfInBounds i true) j = lst listed j := getD_set_ne false (Ne.symm hj)
          rw [this]; simp [hj]
      unfold wpOp
      simp only [hoi]
      split
      · rename_i hw
        rw [if_pos hw] at step
        exact .inl (Oper.wp_mono next step)
      · rename_i hw
        rw [if_neg hw] at step
        exact next _ _ step

theorem draw_sound {id : Nat} {ops : Array Oper} {st : St} {a : Act} {w : World} {K : St → Prop} {Q : Exit → Act → World → Prop} (hQ : ∀ a' w', AOut P N w0 I0 K a' w' → Q .normal a' w') (hm : P.follows .mixedOrders = true)
    (hd : ∀ o ∈ ops.toList, ∀ t, o.dst = some t → t < N) (hok : drawOk ops.toList = true) (h : drawOps P ops.toList (headOps ops.toList) (tailOps ops.toList) st K) (hc : CC P N w0 I0 st a w) : (Code.region id ops true).wp P Q a w := by
  obtain ⟨ops⟩ := ops
  simp only at hd hok h
  refine wp_region_any hm ?_
  obtain ⟨rs, hflow, hK⟩ := flow_extract (headOps ops) 0 _ h
  obtain ⟨I, ρ, hs, c⟩ := hc
  have c' : Conc P N w0 I0 st a { w with drawn := w.drawn + 1 } I ρ hs := c.grow ⟨⟨fun b o x h => c.held.cell b o x h⟩, (Below.refl w.heap.size w).drew, fun _ _ _ => rfl⟩
  have hol : ops.length = (headOps ops).length + (tailOps ops).length := by
    conv => lhs; rw [← head_tail ops]
    rw [List.length_append]
  have hz : ∀ j, lst (Array.replicate ops.toArray.size false) j = false := fun j => getD_replicate_false _ _
  have := draw_go (P := P) (N := N) (w0 := w0) (I0 := I0) hQ hd hok (flow_len hflow) hflow hK (headOps ops).length (List.range (headOps ops).length) (Array.replicate ops.toArray.size false) a { w with drawn := w.drawn + 1 }
    List.length_range List.nodup_range (fun j => by rw [hz]; simp) ⟨by simp, fun j oj _ h => Bool.noConfusion ((hz j).symm.trans h), fun t _ ht => getD_in (by simpa using ht) (hz t)⟩
    ⟨I, ρ, hs, fun ρ' hρ => by
      rw [part_none _ _ _ _ fun j _ => hz j]
      exact conc_killNew (headOps ops) st ρ c' ρ' fun s => (hρ s).imp (fun h => h) fun ⟨j, o, h1, h2, _, h4⟩ => ⟨o, List.mem_of_getElem? h1, h2, by rw [h4]; rfl⟩⟩
  have e : ops.toArray.size = (headOps ops).length + (tailOps ops).length := by simpa using hol
  rw [← e] at this
  exact this
end
end Go.AM
namespace Go.AM
open Go.RowKit (Below)

/-- every slot that the code writes lies in the frame; each region that draws its order has the form that is asked -/
def opsIn (N : Nat) (ops : List Oper) : Bool := ops.all fun o => match o.dst with | some t => decide (t < N) | none => true
def codeOk (N : Nat) : Code → Bool
  | .seq a b => codeOk N a && codeOk N b
  | .cond _ a b => codeOk N a && codeOk N b
  | .block _ a => codeOk N a
  | .loop a => codeOk N a
  | .region _ ops true => opsIn N ops.toList && drawOk ops.toList
  | .region _ ops false => opsIn N ops.toList
  | _ => true

theorem opsIn_spec {N : Nat} {ops : List Oper} (h : opsIn N ops = true) : ∀ o ∈ ops, ∀ t, o.dst = some t → t < N := by
  intro o ho t ht
  have := List.all_eq_true.1 h o ho
  rw [ht] at this
  simpa using this

section
variable {P : Program} {N : Nat} {w0 : World} {I0 : Gh}

/-- what the code's end says, of the frame and the world -/
def QOut (P : Program) (N : Nat) (w0 : World) (I0 : Gh) (Q : Exit → St → Prop) (e : Exit) (a' : Act) (w' : World) : Prop := ∃ st', Q e st' ∧ CC P N w0 I0 st' a' w'

/-- THE ABSTRACT MACHINE IS SOUND -/
theorem AWP_sound (hm : P.follows .mixedOrders = true) : ∀ (c : Code) (Q : Exit → St → Prop) (st : St) (a : Act) (w : World), codeOk N c = true → AWP P c Q st → CC P N w0 I0 st a w → c.wp P (QOut P N w0 I0 Q) a w
  | .skip, Q, st, a, w, _, h, hc => wp_skip ⟨st, h, hc⟩
  | .seq x y, Q, st, a, w, hok, h, hc => by
    simp only [codeOk, Bool.and_eq_true] at hok
    rw [AWP_seq] at h
    refine wp_seq (Code.wp_mono ?_ (AWP_sound hm x _ st a w hok.1 h hc))
    rintro e a' w' ⟨st', hq, hc'⟩
    cases e with
    | normal => exact AWP_sound hm y Q st' a' w' hok.2 hq hc'
    | exit id => exact ⟨st', hq, hc'⟩
    | goto l => exact ⟨st', hq, hc'⟩
    | ret => exact ⟨st', hq, hc'⟩
    | panic ch => exact ⟨st', hq, hc'⟩
    | outgrown => exact ⟨st', hq, hc'⟩
  | .cond c x y, Q, st, a, w, hok, h, hc => by
    simp only [codeOk, Bool.and_eq_true] at hok
    rw [AWP_cond] at h
    obtain ⟨I, ρ, hs, hcc⟩ := hc
    unfold condQ at h
    split at h
    · rename_i b hb
      have hr := hcc.ev c
      rw [hb] at hr
      refine wp_cond (rep_v hr) ?_
      cases b with
      | true => exact AWP_sound hm x Q st a w hok.1 (h.1 rfl) ⟨I, ρ, hs, hcc⟩
      | false => exact AWP_sound hm y Q st a w hok.2 (h.2 rfl) ⟨I, ρ, hs, hcc⟩
    · exact h.elim
  | .block id x, Q, st, a, w, hok, h, hc => by
    rw [AWP_block] at h
    refine wp_block (Code.wp_mono ?_ (AWP_sound hm x _ st a w hok h hc))
    rintro e a' w' ⟨st', hq, hc'⟩
    cases e with
    | normal => exact ⟨st', hq, hc'⟩
    | exit id' =>
      simp only [blockQ] at hq
      simp only [Exit.inBlock]
      split at hq
      · rename_i e; rw [if_pos e]; exact ⟨st', hq, hc'⟩
      · rename_i e; rw [if_neg e]; exact ⟨st', hq, hc'⟩
    | goto l => exact ⟨st', hq, hc'⟩
    | ret => exact ⟨st', hq, hc'⟩
    | panic ch => exact ⟨st', hq, hc'⟩
    | outgrown => exact ⟨st', hq, hc'⟩
  | .loop x, Q, st, a, w, hok, h, hc => by
    rw [AWP] at h
    obtain ⟨J, M, h0, hstep⟩ := h
    -- so many rounds at the most as the invariant's own number leaves
    have key : ∀ (m k : Nat) (st : St) (a : Act) (w : World), M - k = m → k ≤ M → J k st → CC P N w0 I0 st a w → Code.rounds P x (QOut P N w0 I0 Q) (m + 1) a w := by
      intro m
      induction m with
      | zero =>
        intro k st a w hk hle hj hcc
        rw [rounds_succ]
        refine Code.wp_mono ?_ (AWP_sound hm x _ st a w hok (hstep k st hle hj) hcc)
        rintro e a' w' ⟨st', hq, hc'⟩
        cases e with
        | normal => obtain ⟨hlt, _⟩ := hq; omega
        | exit id => exact ⟨st', hq, hc'⟩
        | goto l => exact ⟨st', hq, hc'⟩
        | ret => exact ⟨st', hq, hc'⟩
        | panic ch => exact ⟨st', hq, hc'⟩
        | outgrown => exact ⟨st', hq, hc'⟩
      | succ m ih =>
        intro k st a w hk hle hj hcc
        rw [rounds_succ]
        refine Code.wp_mono ?_ (AWP_sound hm x _ st a w hok (hstep k st hle hj) hcc)
        rintro e a' w' ⟨st', hq, hc'⟩
        cases e with
        | normal => obtain ⟨hlt, hj'⟩ := hq; exact ih (k + 1) st' a' w' (by omega) (by omega) hj' hc'
        | exit id => exact ⟨st', hq, hc'⟩
        | goto l => exact ⟨st', hq, hc'⟩
        | ret => exact ⟨st', hq, hc'⟩
        | panic ch => exact ⟨st', hq, hc'⟩
        | outgrown => exact ⟨st', hq, hc'⟩
    exact wp_loop_rounds _ (key _ 0 st a w rfl (Nat.zero_le _) h0 hc)
  | .exit id, Q, st, a, w, _, h, hc => wp_exit ⟨st, by rw [AWP_exit] at h; exact h, hc⟩
  | .ret, Q, st, a, w, _, h, hc => wp_ret ⟨st, by rw [AWP_ret] at h; exact h, hc⟩
  | .region id ops true, Q, st, a, w, hok, h, hc => by
    simp only [codeOk, Bool.and_eq_true] at hok
    rw [AWP] at h
    exact draw_sound (K := Q .normal) (fun a' w' hh => hh) hm (opsIn_spec hok.1) hok.2 h hc
  | .region id ops false, Q, st, a, w, hok, h, hc => by
    rw [AWP] at h
    refine wp_region_list ?_
    exact seqOps_sound (K := Q .normal) (fun a' w' hh => hh) ops.toList ops.toList st a w (opsIn_spec hok) h hc
  | .rangeFunc _ _ _ _, _, _, _, _, _, h, _ => by unfold AWP at h; exact h.elim
  | .scope _, _, _, _, _, _, h, _ => by unfold AWP at h; exact h.elim
  | .label _, _, _, _, _, _, h, _ => by unfold AWP at h; exact h.elim
  | .goto _, _, _, _, _, _, h, _ => by unfold AWP at h; exact h.elim
  | .refuse _, _, _, _, _, _, h, _ => by unfold AWP at h; exact h.elim

/-- one result variable's value -/
def resV (P : Program) (st : St) (rv : ResultVar) (K : AV → Prop) : Prop :=
  match rv with
  | .tmp t => K (st.fr t)
  | .cell ad t => loadP P st.mem t (st.fr ad) K .mk
def resVs (P : Program) (st : St) : List ResultVar → (List AV → Prop) → Prop
  | [], K => K []
  | rv :: r, K => resV P st rv fun x => valP x (fun x => resVs P st r fun l => K (x :: l)) .mk
/-- the same, at which the rewriting goes by the list -/
def resL (P : Program) (st : St) (rs : List ResultVar) (K : List AV → Prop) (_ : Lock K) : Prop := resVs P st rs K
def tupOf : List AV → AV
  | [a] => a
  | l => .tup l
def retV (r : AV) : Option (List AV × Bool) → Prop
  | some (l, _) => tupOf l = r
  | none => False
/-- at the function's end the result is r -/
def retP (P : Program) (rs : List ResultVar) (r : AV) (e : Exit) (st : St) : Prop :=
  (match e with | .ret => True | .normal => True | _ => False) ∧ resVs P st rs fun l => retV r (AV.viewAll st.mem l)

section
variable (P : Program) (r : AV) (st : St) (rs : List ResultVar)
theorem retP_ret : retP P rs r .ret st = resL P st rs (fun l => valP (AV.viewAll st.mem l) (fun o => retV r o) .mk) .mk := by simp only [retP, resL, valP, true_and]
theorem retP_normal : retP P rs r .normal st = resL P st rs (fun l => valP (AV.viewAll st.mem l) (fun o => retV r o) .mk) .mk := by simp only [retP, resL, valP, true_and]
theorem resL_nil (K : List AV → Prop) (l : Lock K) : resL P st [] K l = K [] := rfl
theorem resL_tmp (t : Nat) (K : List AV → Prop) (l : Lock K) : resL P st (.tmp t :: rs) K l = valP (st.fr t) (fun x => resL P st rs (fun l => K (x :: l)) .mk) .mk := rfl
theorem resL_cell (a : Nat) (t : TypeId) (K : List AV → Prop) (l : Lock K) : resL P st (.cell a t :: rs) K l = loadP P st.mem t (st.fr a) (fun x => valP x (fun x => resL P st rs (fun l => K (x :: l)) .mk) .mk) .mk := rfl
theorem retV_some (l : List AV) (b : Bool) : retV r (some (l, b)) = (tupOf l = r) := rfl
theorem tupOf_one (a : AV) : tupOf [a] = a := rfl
theorem tupOf_two (a b : AV) : tupOf [a, b] = .tup [a, b] := rfl
theorem tupOf_three (a b c : AV) : tupOf [a, b, c] = .tup [a, b, c] := rfl
end

def readRes (tmps : Array Value) : ResultVar → Sem Value
  | .tmp t => pure (tmps.getD t undef)
  | .cell a t => do loadVar t (← asAddr (tmps.getD a undef))

theorem resVs_sound {st : St} {a : Act} {w : World} {I : Gh} {ρ : Nat → Nat} {hs : Nat → Nat → Value} (c : Conc P N w0 I0 st a w I ρ hs) : ∀ (rs : List ResultVar) (K : List AV → Prop), resVs P st rs K →
    ∃ (l : List AV) (vals : List Value), (rs.mapM (readRes a.tmps)).run P w = .ok vals w ∧ K l ∧ l.length = vals.length ∧ ∀ j (hj : j < l.length) (hk : j < vals.length), Rep I ρ hs (l[j]) (vals[j])
  | [], K, h => ⟨[], [], by simp, h, rfl, fun j hj => by cases hj⟩
  | rv :: r, K, h => by
    have hone : ∃ v x, (readRes a.tmps rv).run P w = .ok x w ∧ resVs P st r (fun l => K (v :: l)) ∧ Rep I ρ hs v x := by
      cases rv with
      | tmp t => exact ⟨_, _, by simp [readRes], h, c.fr t⟩
      | cell ad t =>
        obtain ⟨v, x, h1, h2, h3⟩ := loadP_sound (P := P) c.held c.mem h (c.fr ad)
        refine ⟨v, x, ?_, h2, h3⟩
        have hform : ∃ p, a.tmps.getD ad undef = .pointer (some p) := by
          have h' : loadP P st.mem t (st.fr ad) (fun x => valP x (fun x => resVs P st r fun l => K (x :: l)) .mk) .mk := h
          have hr := c.fr ad
          unfold loadP at h'
          split at h'
          · rename_i s off hx; rw [hx] at hr; exact ⟨_, rep_loc hr⟩
          · rename_i cs hx
            rw [hx] at hr
            have hr := rep_ep hr
            generalize a.tmps.getD ad undef = u at hr
            cases hr with | ep _ b o vals _ _ => exact ⟨_, rfl⟩
          · exact h'.elim
        obtain ⟨p, hp⟩ := hform
        rw [hp] at h1
        simp only [readRes, hp, asAddr, Sem.run_bind, Sem.run_pure, Result.andThen_ok]
        simpa [Instr.loadAt, Instr.sureAddr] using h1
    obtain ⟨v, x, h1, h2, h3⟩ := hone
    obtain ⟨l, vals, q1, q2, q3, q4⟩ := resVs_sound c r _ h2
    refine ⟨v :: l, x :: vals, by simp [List.mapM_cons, h1, q1], q2, by simp [q3], fun j hj hk => ?_⟩
    cases j with
    | zero => exact h3
    | succ j => exact q4 j (by simpa using hj) (by simpa using hk)

def initSt (args : List AV) : St := { fr := fun i => args.getD i .un, mem := fun _ => none, tok := fun _ => none }
theorem init_fr (args : List AV) (i : Nat) : (initSt args).fr i = args.getD i .un := rfl
theorem init_mem (args : List AV) (i : Nat) : (initSt args).mem i = none := rfl
theorem init_tok (args : List AV) (i : Nat) : (initSt args).tok i = none := rfl

theorem conc_init {args : List AV} {vals : Array Value} {I : Gh} {w : World} (hN : vals.size ≤ N) (hh : Held I w) (hn : vals.size = args.length) (hr : ∀ j (hj : j < args.length) (hk : j < vals.size), RepS I (args[j]) (vals[j])) :
    Conc P N w I (initSt args) { tmps := vals ++ Array.replicate (N - vals.size) undef, defers := [] } w I (fun _ => 0) (fun _ _ => undef) := by
  refine ⟨hh, Below.refl _ _, fun _ _ _ => rfl, by simp; omega, rfl, fun i => ?_, ⟨(fun s cs h => by cases h), (fun s cs h => by cases h), (fun s cs h => by cases h), (fun s s' cs cs' h => by cases h)⟩, ⟨(fun s n e h => by cases h), (fun s n e h => by cases h), (fun s n e h => by cases h), (fun s n e s' n' e' h => by cases h)⟩⟩
  show Rep I _ _ (args.getD i .un) _
  by_cases hi : i < args.length
  · have hk : i < vals.size := by omega
    have e1 : args.getD i .un = args[i] := by simp [List.getD, hi]
    have e2 : (vals ++ Array.replicate (N - vals.size) undef).getD i undef = vals[i] := by
      rw [Array.getD_eq_getD_getElem?, Array.getElem?_append_left hk, Array.getElem?_eq_getElem hk]; rfl
    rw [e1, e2]; exact .stat (hr i hi hk)
  · have e1 : args.getD i .un = .un := by simp [List.getD, hi]
    have e2 : (vals ++ Array.replicate (N - vals.size) undef).getD i undef = undef := by
      rw [Array.getD_eq_getD_getElem?, Array.getElem?_append_right (by omega), Array.getElem?_replicate]
      split <;> rfl
    rw [e1, e2]; exact .stat (.v _)

/-- A FUNCTION's CONTRACT OUT OF ITS BODY -/
theorem spec_of_awp {f : FuncId} {fn : Func} {c : Code} {rs : List ResultVar} {args : List AV} {r : AV} (hm : P.follows .mixedOrders = true) (hf : P.funcs[f]? = some fn) (hb : fn.body = some c) (hrs : fn.results = rs.toArray) (hname : fn.name ≠ "runtime.NumGoroutine") (hN : Nat.ble args.length fn.ntmps = true) (hok : codeOk fn.ntmps c = true) (hst : r.isStat = true)
    (h : AWP P c (retP P rs r) (initSt args)) : SpecAt P f args r := by
  refine ⟨⟨fn, c, hf, hb, hname⟩, hst, fun I w vals hh hn hr => ?_⟩
  refine calls_of_wp hf hb ?_
  have hN' := Nat.le_of_ble_eq_true hN
  have hc := conc_init (P := P) (N := fn.ntmps) (by omega) hh hn hr
  refine Code.wp_mono ?_ (AWP_sound (N := fn.ntmps) (w0 := w) (I0 := I) hm c _ _ _ w hok h ⟨_, _, _, hc⟩)
  rintro e a' w' ⟨st', ⟨he, hres⟩, I', ρ, hs, hcc⟩
  have hrl : fn.results.toList = rs := by rw [hrs]
  rw [← hrl] at hres
  obtain ⟨l, rvals, q1, q2, q3, q4⟩ := resVs_sound hcc _ _ hres
  unfold retV at q2
  split at q2
  · rename_i l' b hv
    obtain ⟨p1, p2, _⟩ := viewAll_spec hcc.mem (vals := fun j => rvals.getD j undef) hv (fun j hj => by
      have hk : j < rvals.length := by omega
      simpa [List.getD, hk] using q4 j hj hk)
    have hrun : (results fn a'.tmps).run P w' = .ok (if h : rvals.toArray.size = 1 then rvals.toArray[0] else .tuple rvals.toArray) w' := by
      have e0 : results fn a'.tmps = (do let vs ← fn.results.mapM (readRes a'.tmps); pure (if h : vs.size = 1 then vs[0] else .tuple vs)) := by
        unfold results
        congr 1
      rw [e0, Sem.run_bind, Array.mapM_eq_mapM_toList, Sem.run_map, q1]
      rfl
    have hx : RepS (lend I' ρ st'.mem w') r (if h : rvals.toArray.size = 1 then rvals.toArray[0] else .tuple rvals.toArray) := by
      rw [← q2]
      by_cases h1 : rvals.toArray.size = 1
      · rw [dif_pos h1]
        have hl1 : rvals.length = 1 := by simpa using h1
        match l', p1, p2 with
        | [y], _, p2 =>
          have := p2 0 (by simp)
          simpa [tupOf, List.getD, hl1] using this
        | [], p1, _ => simp at p1; omega
        | _ :: _ :: _, p1, _ => simp at p1; omega
      · rw [dif_neg h1]
        have ht : tupOf l' = .tup l' := by
          match l', p1 with
          | [y], p1 => simp at p1 h1; omega
          | [], _ => rfl
          | _ :: _ :: _, _ => rfl
        rw [ht]
        exact .tup _ _ (by simp; omega) fun j hj hk => by
          have := p2 j hj
          simp at hk
          simpa [List.getD, hk] using this
    have hgrow : Grow I w (lend I' ρ st'.mem w') w' := by
      refine ⟨lend_held hcc.held hcc.mem, hcc.below, fun b o hb => ?_⟩
      unfold lend
      rw [if_neg]
      · exact hcc.keeps b o hb
      · rintro ⟨s, cs, h1, rfl⟩
        have := hcc.mem.lo s cs h1; omega
    have hend : bodyPost P fn (fun e w' => ∃ I' x, e = .returned x ∧ RepS I' r x ∧ Grow I w I' w') e a' w' := by
      have hd := hcc.defers
      cases e with
      | normal => exact ⟨hd, _, hrun, _, _, rfl, hx, hgrow⟩
      | ret => exact ⟨hd, _, hrun, _, _, rfl, hx, hgrow⟩
      | exit id => exact he.elim
      | goto l => exact he.elim
      | panic ch => exact he.elim
      | outgrown => exact he.elim
    exact hend
  · exact q2.elim
end
end Go.AM

/-
  CONTRACTS of functions of the program, and what they compute, by content.
-/
import Derived.Test.YtbhaeaehgmpfhaaCU0
import Derived.Test.YtbhaeaehgmpfhaaM2SC
import Derived.Sort.Grow
import Derived.Sort.Row
set_option linter.unusedVariables false
set_option linter.unusedSimpArgs false
namespace Go.AM
/-! a sort of the library's, as its own contract tells it, in this machine's words -/
def srt (l : List Int) : List Int := l.mergeSort fun x y => decide (x ≤ y)
theorem srt_len (l : List Int) : (srt l).length = l.length := List.length_mergeSort l
theorem putRow_block {α : Type} [Inhabited α] (enc : α → Value) (w : World) (blk off n : Nat) (d : Array α) (os : Array Obj) {arr : Array Value} {E : TypeId} {fr : Nat × Nat} (h : w.heap[blk]? = some (.cells arr E fr)) :
    (Sort.grow (Sort.putRow enc (Sort.ahead w n) blk off d) os).heap[blk]? = some (.cells (Sort.putCells enc off d arr) E fr) := by
  have hlt : blk < w.heap.size := (Array.getElem?_eq_some_iff.1 h).1
  simp only [Sort.grow, Sort.putRow, Sort.mapBlock, Sort.ahead]
  rw [Array.getElem?_append_left (by simpa using hlt), Array.getElem?_modify, if_pos rfl, h]
  rfl
theorem putRow_other {α : Type} [Inhabited α] (enc : α → Value) (w : World) (blk off n : Nat) (d : Array α) (os : Array Obj) {k : Nat} (hk : k < w.heap.size) (hne : k ≠ blk) :
    (Sort.grow (Sort.putRow enc (Sort.ahead w n) blk off d) os).heap[k]? = w.heap[k]? := by
  simp only [Sort.grow, Sort.putRow, Sort.mapBlock, Sort.ahead]
  rw [Array.getElem?_append_left (by simpa using hk), Array.getElem?_modify, if_neg (Ne.symm hne)]
theorem putRow_size {α : Type} [Inhabited α] (enc : α → Value) (w : World) (blk off n : Nat) (d : Array α) (os : Array Obj) : w.heap.size ≤ (Sort.grow (Sort.putRow enc (Sort.ahead w n) blk off d) os).heap.size := by
  simp only [Sort.grow, Sort.putRow, Sort.mapBlock, Sort.ahead, Array.size_append, Array.size_modify]; omega
theorem putCells_get {α : Type} [Inhabited α] (enc : α → Value) (off : Nat) (d : Array α) (c : Array Value) (k : Nat) (hk : k < c.size) : (Sort.putCells enc off d c).getD k undef = if off ≤ k ∧ k < off + d.size then enc d[k - off]! else c.getD k undef := by
  simp only [Sort.putCells, Array.getD_eq_getD_getElem?, Array.getElem?_mapIdx]
  rw [Array.getElem?_eq_getElem hk]
  simp only [Option.map_some, Option.getD_some]
theorem itr_at (l : List Int) : ∀ (ij : Nat × Nat) (p : Path), ((itr l).at (ij :: p)).isNode = false := fun ij p => by
  show (AV.at (((l.map AV.i64).getD ij.1 .any).cells.getD ij.2 .any) p).isNode = false
  by_cases h : ij.1 < l.length
  · rw [gi l _ h]
    show (AV.at (([AV.i64 (l.getD ij.1 0)] : List AV).getD ij.2 .any) p).isNode = false
    cases ij.2 with
    | zero =>
      show (AV.at (AV.i64 (l.getD ij.1 0)) p).isNode = false
      cases p with
      | nil => rfl
      | cons a p =>
        show (AV.at .any p).isNode = false
        rw [any_at]; rfl
    | succ j =>
      show (AV.at .any p).isNode = false
      rw [any_at]; rfl
  · have e : (l.map AV.i64).getD ij.1 .any = .any := getD_ge (by simp; omega)
    rw [e]
    have e2 : (AV.any).cells.getD ij.2 .any = .any := by cases ij.2 <;> rfl
    rw [e2, any_at]; rfl
theorem node_itr {l : List Int} {p : Path} (h : ((itr l).at p).isNode = true) : p = [] := by
  cases p with
  | nil => rfl
  | cons ij p => rw [itr_at] at h; cases h
/-- a function of the library that sorts a row of numbers where it stands -/
theorem spec_sort {P : Program} {f : FuncId} (hb : HasBody P f)
    (hs : ∀ (blk off cap : Nat) (zs : List Int) (w : World), Sort.Holds (Value.int .i64) w blk off zs.toArray → blk < w.heap.size → zs.length < 4611686018427387904 →
      Calls P f #[.slice (some ⟨blk, off, none⟩) zs.length cap] w fun e w' => e = .returned (.tuple #[]) ∧ ∃ n os, w' = Sort.grow (Sort.putRow (Value.int .i64) (Sort.ahead w n) blk off (srt zs).toArray) os)
    (hn : ∀ (p : Option Addr) (cap : Nat) (w : World), Calls P f #[.slice p 0 cap] w fun e w' => e = .returned (.tuple #[]) ∧ w' = w)
    (l : List Int) (hl : l.length < 4611686018427387904) : SpecX P f [itr l] [some (itr (srt l))] (.tup []) := by
  refine ⟨hb, by simp, fun j T hj => ?_, fun I π w vals hI hvs hsep htop => ?_⟩
  · match j with
    | 0 => simp at hj; subst hj; show AV.sig (.tr 1 _) = AV.sig (.tr 1 _); simp [AV.sig, AV.sig1, srt_len]
    | j + 1 => simp at hj
  obtain ⟨v, rfl⟩ : ∃ v, vals = #[v] := by
    match vals, hvs with
    | ⟨[v]⟩, _ => exact ⟨v, rfl⟩
  have h0 := htop 0 (by simp) (by simp)
  have h00 : (fun i => ([itr l] : List AV)[i]?) 0 = some (itr l) := rfl
  have hrow := hsep.row 0 (itr l) [] h00
  have only : ∀ {i T}, ([itr l] : List AV)[i]? = some T → i = 0 ∧ T = itr l := fun {i T} h => by
    match i with
    | 0 => simp at h; exact ⟨rfl, h.symm⟩
    | i + 1 => simp at h
  have outs : ∀ {i T}, outMem ([itr l] : List AV).length [some (itr (srt l))] (.tup []) i = some T → (i = 0 ∧ T = itr (srt l)) ∨ (i = 1 ∧ T = .tup []) := fun {i T} h => by
    unfold outMem at h
    split at h
    · rename_i e; cases h; exact .inr ⟨by simpa using e, rfl⟩
    · match i with
      | 0 => simp at h; exact .inl ⟨rfl, h.symm⟩
      | i + 1 => simp at h
  have tupn : ∀ p, ((AV.tup []).at p).isNode = false := fun p => by
    cases p with
    | nil => rfl
    | cons ij p =>
      show (AV.at ((AV.tup []).cellAt ij.1 ij.2) p).isNode = false
      have e : (AV.tup []).cellAt ij.1 ij.2 = .any := by cases ij.1 <;> rfl
      rw [e, any_at]; rfl
  have htt : ∀ (π' : Pl), TopOk I (π' ([itr l] : List AV).length) [] (.tup []) (.tuple #[]) := fun π' => ⟨#[], rfl, rfl, fun j hj => by cases hj⟩
  -- an empty row
  have empty : l = [] → (∃ a cap, v = .slice a 0 cap) → Calls P f #[v] w fun e w' => ∃ I' π' x, e = .returned x ∧ Held I' w' ∧ Sep I' π' w' (outMem ([itr l] : List AV).length [some (itr (srt l))] (.tup [])) ∧ TopOk I' (π' ([itr l] : List AV).length) [] (.tup []) x ∧
      (∀ j T, ([some (itr (srt l))] : List (Option AV))[j]? = some (some T) → ∀ q, TopPos T q → π' j q = π j q) ∧ BelowX (Owns π (fun i => ([itr l] : List AV)[i]?)) w.heap.size w w' ∧ (∀ b o, b < w.heap.size → I' b o = I b o) ∧ (∀ b, Owns π' (outMem ([itr l] : List AV).length [some (itr (srt l))] (.tup [])) b → Owns π (fun i => ([itr l] : List AV)[i]?) b ∨ w.heap.size ≤ b) := by
    rintro rfl ⟨a, cap, rfl⟩
    refine (hn a cap w).mono ?_
    rintro e w' ⟨rfl, rfl⟩
    have e0 : srt [] = [] := by simp [srt]
    have hmem : ∀ {i T p}, outMem ([itr []] : List AV).length [some (itr (srt []))] (.tup []) i = some T → (T.at p).isNode = true → i = 0 ∧ T = itr [] := fun {i T p} h1 h2 => by
      rcases outs h1 with ⟨rfl, rfl⟩ | ⟨rfl, rfl⟩
      · exact ⟨rfl, by rw [e0]⟩
      · rw [tupn] at h2; cases h2
    refine ⟨I, π, _, rfl, hI, ⟨fun i T p h1 => ?_, fun i T p k h1 h2 h3 => ?_, fun i T p k i' T' p' k' h1 h2 h3 h1' h2' h3' he => ?_⟩, htt π, fun _ _ _ _ _ => rfl, .refl _ _ _, fun _ _ _ => rfl, fun b hb => ?_⟩
    · cases hnn : (T.at p).isNode with
      | false => exact node_false hnn
      | true => obtain ⟨rfl, rfl⟩ := hmem h1 hnn; exact hsep.row 0 _ p rfl
    · obtain ⟨rfl, rfl⟩ := hmem h1 h2; exact hsep.free 0 _ p k rfl h2 h3
    · obtain ⟨rfl, rfl⟩ := hmem h1 h2
      obtain ⟨rfl, rfl⟩ := hmem h1' h2'
      exact hsep.inj 0 _ p k 0 _ p' k' rfl h2 h3 rfl h2' h3' he
    · obtain ⟨s, T, p, k, h1, h2, h3, rfl⟩ := hb
      obtain ⟨rfl, rfl⟩ := hmem h1 h2
      exact .inl ⟨0, _, p, k, rfl, h2, h3, rfl⟩
  have h0 : CellOk I (π 0 []) (itr l) v := h0
  rcases h0 with ⟨_, hd⟩ | ⟨h, _⟩
  case inr => cases h
  rcases hd with ⟨k, hk, hkz, hkc, rfl⟩ | ⟨he, a, rfl⟩
  case inr => exact empty (by simpa using he) ⟨a, 0, rfl⟩
  rcases hrow with ⟨hno, _⟩ | ⟨k', E, arr, hk', hz', hc', hcap, hblk, harr, hcell⟩
  · rw [hk] at hno; cases hno
  rw [hk] at hk'; cases hk'
  simp only [List.length_map] at hkc hc' ⊢
  have hlt : k.b < w.heap.size := (Array.getElem?_eq_some_iff.1 hblk).1
  have hvals : ∀ i, i < l.length → arr.getD (k.off + i) undef = .int .i64 (l.getD i 0) := fun i hi => by
    have h := (hcell i (by simpa using hi)).2 0 (by simp [AV.cells])
    have h1 : CellOk I (π 0 [(i, 0)]) (AV.i64 l[i]) (arr.getD (k.off + i) undef) := by have h3 := h.1; simpa [AV.cells] using h3
    rcases h1 with ⟨h2, _⟩ | ⟨_, h2⟩
    · cases h2
    · rw [getD_eq _ _ _ hi]
      exact rep_v (.stat (ρ := π) h2)
  have hholds : Sort.Holds (Value.int .i64) w k.b k.off l.toArray := fun j hj => by
    have hj : j < l.length := by simpa using hj
    have hlt2 : k.off + j < arr.size := by omega
    have hv := hvals j hj
    constructor
    · show (match w.heap[k.b]? with | some (.cells c _ _) => if (none : Option _).isSome then none else c[k.off + j]? | _ => none) = _
      rw [hblk]
      simp only [Option.isSome_none, Bool.false_eq_true, if_false]
      rw [Array.getElem?_eq_getElem hlt2]
      rw [Array.getD_eq_getD_getElem?, Array.getElem?_eq_getElem hlt2, Option.getD_some] at hv
      rw [hv, getD_eq _ _ _ hj]
      simp [hj]
    · show (match w.heap[k.b]? with | some (.cells _ _ (lo, hi)) => decide (lo ≤ k.off + j) && decide (k.off + j < hi) | _ => false) = false
      rw [hblk]; simp
  refine (hs k.b k.off k.cap l w hholds hlt hl).mono ?_
  rintro e w' ⟨rfl, n, os, rfl⟩
  have hlen := srt_len l
  have hb' := putRow_block (Value.int .i64) w k.b k.off n (srt l).toArray os hblk
  have ho' : ∀ b, b < w.heap.size → b ≠ k.b → (Sort.grow (Sort.putRow (Value.int .i64) (Sort.ahead w n) k.b k.off (srt l).toArray) os).heap[b]? = w.heap[b]? := fun b h1 h2 => putRow_other (Value.int .i64) w k.b k.off n (srt l).toArray os h1 h2
  have hsz := putRow_size (Value.int .i64) w k.b k.off n (srt l).toArray os
  generalize hW : Sort.grow (Sort.putRow (Value.int .i64) (Sort.ahead w n) k.b k.off (srt l).toArray) os = w' at hb' ho' hsz ⊢
  have hos : w'.os = w.os ∧ w'.tape = w.tape ∧ w'.output = w.output := by rw [← hW]; exact ⟨rfl, rfl, rfl⟩
  have hfree := hsep.free 0 (itr l) [] k rfl rfl hk
  have hmem : ∀ {i T p}, outMem ([itr l] : List AV).length [some (itr (srt l))] (.tup []) i = some T → (T.at p).isNode = true → i = 0 ∧ T = itr (srt l) ∧ p = [] := fun {i T p} h1 h2 => by
    rcases outs h1 with ⟨rfl, rfl⟩ | ⟨rfl, rfl⟩
    · exact ⟨rfl, rfl, node_itr h2⟩
    · rw [tupn] at h2; cases h2
  have hown : Owns π (fun i => ([itr l] : List AV)[i]?) k.b := ⟨0, itr l, [], k, rfl, rfl, hk, rfl⟩
  refine ⟨I, π, _, rfl, ⟨fun b o x hx => ?_⟩, ⟨fun i T p h1 => ?_, fun i T p k2 h1 h2 h3 => ?_, fun i T p k2 i' T' p' k2' h1 h2 h3 h1' h2' h3' he => ?_⟩, htt π, fun _ _ _ _ _ => rfl, ⟨hos.1, hos.2.1, hos.2.2, hsz, fun b h1 h2 => ?_⟩, fun _ _ _ => rfl, fun b hb2 => ?_⟩
  · have h1 := hI.cell b o x hx
    have hne : b ≠ k.b := fun e => by subst e; rw [hfree o] at hx; cases hx
    exact ⟨(World.cell?_of_block (w := w) (a := ⟨b, o, none⟩) (ho' b (hI.lt hx) hne)).trans h1.1, h1.2⟩
  · cases hnn : (T.at p).isNode with
    | false => exact node_false hnn
    | true =>
      obtain ⟨rfl, rfl, rfl⟩ := hmem h1 hnn
      refine .inr ⟨k, E, _, hk, hkz, by simp only [List.length_map, hlen]; exact hkc, hcap, hb', by simpa [Sort.putCells] using harr, fun i hi => ?_⟩
      have hi : i < (srt l).length := by simpa using hi
      have hia : k.off + i < arr.size := by omega
      refine ⟨by simp [AV.cells], fun j hj => ?_⟩
      have hj : j = 0 := by simp [AV.cells] at hj; exact hj
      subst hj
      simp only [List.getElem_map, Nat.mul_one, Nat.add_zero]
      rw [putCells_get _ _ _ _ _ hia, if_pos ⟨by omega, by simp; omega⟩]
      have e : (srt l).toArray[k.off + i - k.off]! = (srt l)[i] := by rw [show k.off + i - k.off = i by omega]; simp [hi]
      rw [e]
      exact ⟨.inr ⟨rfl, .v _⟩, rfl⟩
  · obtain ⟨rfl, rfl, rfl⟩ := hmem h1 h2
    exact hsep.free 0 (itr l) [] k2 rfl rfl h3
  · obtain ⟨rfl, rfl, rfl⟩ := hmem h1 h2
    obtain ⟨rfl, rfl, rfl⟩ := hmem h1' h2'
    exact ⟨rfl, rfl⟩
  · exact ho' b h1 fun e => h2 (e ▸ hown)
  · obtain ⟨s, T, p, k2, h1, h2, h3, rfl⟩ := hb2
    obtain ⟨rfl, rfl, rfl⟩ := hmem h1 h2
    exact .inl ⟨0, itr l, [], k2, rfl, rfl, h3, rfl⟩
end Go.AM

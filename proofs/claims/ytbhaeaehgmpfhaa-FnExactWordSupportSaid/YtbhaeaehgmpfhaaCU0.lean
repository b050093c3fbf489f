/-
  CONTRACTS of functions of the program, and what they compute, by content.
-/
import Derived.Test.YtbhaeaehgmpfhaaM2Tool
set_option linter.unusedVariables false
set_option linter.unusedSimpArgs false
namespace Go.AM
/-! content: lists of numbers, lists of things -/
abbrev ints (l : List Int) : List AV := l.map AV.i64
abbrev isl (l : List Int) : AV := .sl 1 (l.map AV.i64)
abbrev itr (l : List Int) : AV := .tr 1 (l.map AV.i64)
/-- the types whose lists are looked into (but for numbers) -/
class Thing (α : Type) extends Inhabited α
instance : Thing (List Int) := ⟨⟩
instance : Thing (List (List Int)) := ⟨⟩
theorem gm {α : Type} [Thing α] (f : α → AV) (l : List α) (i : Nat) (h : i < l.length) : (l.map f).getD i .any = f (l.getD i default) := by
  simp [List.getD, h]
theorem gi (l : List Int) (i : Nat) (h : i < l.length) : (l.map AV.i64).getD i .any = .i64 (l.getD i 0) := by
  simp [List.getD, h]
theorem set_map {α : Type} (f : α → AV) (l : List α) (i : Nat) (x : α) : (l.map f).set i (f x) = (l.set i x).map f := by
  rw [List.map_set]
theorem map_snoc {α : Type} (f : α → AV) (l : List α) (x : α) : l.map f ++ [f x] = (l ++ [x]).map f := by simp
theorem map_take {α : Type} (f : α → AV) (l : List α) (n : Nat) : (l.map f).take n = (l.take n).map f := by rw [List.map_take]
theorem map_drop {α : Type} (f : α → AV) (l : List α) (n : Nat) : (l.map f).drop n = (l.drop n).map f := by rw [List.map_drop]
theorem take_map_all {α : Type} (f : α → AV) (l : List α) (n : Nat) (h : n = l.length) : (l.map f).take n = l.map f := by
  rw [List.take_of_length_le]; simp; omega
theorem ints_fz (l : List Int) : (l.map AV.i64).map AV.fz = l.map AV.i64 := by simp [fz_v]
theorem i64c {a b : Int} (h : a = b) : AV.i64 a = AV.i64 b := by rw [h]
theorem vic {k : IntKind} {a b : Int} (h : a = b) : Value.int k a = Value.int k b := by rw [h]
theorem cast1 (j : Nat) : ((j : Int) + 1) = ((j + 1 : Nat) : Int) := by simp
theorem bl_eq {a b : Bool} (h : a = true ↔ b = true) : Value.bool a = Value.bool b := by rw [Bool.eq_iff_iff.2 h]
theorem getD_eq {α : Type} (l : List α) (i : Nat) (d : α) (h : i < l.length) : l.getD i d = l[i] := by simp [List.getD, h]
theorem take_succ_eq {α : Type} (l : List α) (i : Nat) (d : α) (h : i < l.length) : l.take (i + 1) = l.take i ++ [l.getD i d] := by
  rw [List.take_succ_eq_append_getElem h, getD_eq l i d h]
theorem mem_take_succ {α : Type} {l : List α} {i : Nat} {d : α} (h : i < l.length) {p : α → Prop} : (∀ x ∈ l.take (i + 1), p x) ↔ (∀ x ∈ l.take i, p x) ∧ p (l.getD i d) := by
  rw [take_succ_eq l i d h]
  constructor
  · intro q; exact ⟨fun x hx => q x (by simp [hx]), q _ (by simp)⟩
  · rintro ⟨q1, q2⟩ x hx
    rcases List.mem_append.1 hx with hx | hx
    · exact q1 x hx
    · rw [List.mem_singleton.1 hx]; exact q2
theorem take_eq_iff {α : Type} {a b : List α} (d : α) (k : Nat) (hk : k < a.length) (hk' : k < b.length) : a.take (k + 1) = b.take (k + 1) ↔ a.take k = b.take k ∧ a.getD k d = b.getD k d := by
  rw [take_succ_eq a k d hk, take_succ_eq b k d hk']
  constructor
  · intro h
    obtain ⟨h1, h2⟩ := List.append_inj h (by simp; omega)
    exact ⟨h1, by simpa using h2⟩
  · rintro ⟨h1, h2⟩; rw [h1, h2]
theorem eq_of_takes {α : Type} {a b : List α} (hl : a.length = b.length) (h : a.take a.length = b.take a.length) : a = b := by
  have e1 : a.take a.length = a := List.take_length
  have e2 : b.take a.length = b := by rw [hl]; exact List.take_length
  rw [← e1, ← e2]; exact h
/-- numbers one behind the other -/
def runI (k : Int) (n : Nat) : List Int := (List.range n).map fun i => k + (i : Nat)
theorem runI_len (k : Int) (n : Nat) : (runI k n).length = n := by simp [runI]
theorem runI_get (k : Int) (n i : Nat) (h : i < n) : (runI k n).getD i 0 = k + i := by simp [runI, List.getD, h]
/-- the first n elements are new, the others as they were -/
def mixL {α : Type} (a b : List α) (n : Nat) : List α := a.take n ++ b.drop n
theorem mixL_zero {α : Type} (a b : List α) : mixL a b 0 = b := by simp [mixL]
theorem mixL_all {α : Type} (a b : List α) (n : Nat) (h : a.length ≤ n) (h' : b.length ≤ n) : mixL a b n = a := by
  simp [mixL, List.take_of_length_le h, List.drop_of_length_le h']
theorem mixL_len {α : Type} (a b : List α) (n : Nat) (h : a.length = b.length) : (mixL a b n).length = b.length := by
  simp [mixL]; omega
theorem mixL_set {α : Type} (a b : List α) (n : Nat) (d : α) (h : a.length = b.length) (hn : n < b.length) : (mixL a b n).set n (a.getD n d) = mixL a b (n + 1) := by
  apply List.ext_getElem
  · simp [mixL]; omega
  · intro i h1 h2
    simp only [mixL, List.getElem_set, List.getElem_append, List.length_take, List.getElem_take, List.getElem_drop]
    have hd : a.getD n d = a[n]'(by omega) := getD_eq a n d (by omega)
    by_cases e : n = i
    · subst e; rw [if_pos rfl, dif_pos (by omega)]; exact hd
    · by_cases hlt : i < n
      · rw [if_neg e, dif_pos (by omega), dif_pos (by omega)]
      · rw [if_neg e, dif_neg (by omega), dif_neg (by omega)]
        congr 1; omega
theorem mixL_get {α : Type} (a b : List α) (n : Nat) (d : α) (h : a.length = b.length) (hn : n < b.length) : (mixL a b n).getD n d = b.getD n d := by
  have hl := mixL_len a b n h
  rw [getD_eq _ _ _ (by omega), getD_eq _ _ _ hn]
  simp only [mixL, List.getElem_append, List.length_take]
  rw [dif_neg (by omega)]
  simp only [List.getElem_drop]
  congr 1; omega
/-- what is left of a budget -/
def szR (k : Int) (n : Nat) : Int := if k - n < 0 then -1 else k - n
theorem szR_neg {k : Int} {n : Nat} (h : k - n < 0) : szR k n = -1 := if_pos h
theorem szR_pos {k : Int} {n : Nat} (h : 0 ≤ k - n) : szR k n = k - n := if_neg (by omega)
def within (x lo hi : Int) : Bool := decide (lo ≤ x) && decide (x ≤ hi)
theorem within_iff {x lo hi : Int} : within x lo hi = true ↔ lo ≤ x ∧ x ≤ hi := by simp [within]
theorem within_not {x lo hi : Int} : within x lo hi = false ↔ ¬ (lo ≤ x ∧ x ≤ hi) := by rw [← within_iff]; simp
theorem getD_set_same {α : Type} (l : List α) (i : Nat) (x d : α) (h : i < l.length) : (l.set i x).getD i d = x := by simp [List.getD, h]
theorem getD_set_ne {α : Type} (l : List α) (i j : Nat) (x d : α) (h : i ≠ j) : (l.set i x).getD j d = l.getD j d := by simp [List.getD, List.getElem?_set_ne h]
/-! things that are marked: each number of them gets one of its own -/
class Mk (α : Type) extends Thing α where
  mrk : Int → α → α
  cnt : α → Nat
instance : Mk (List Int) := { mrk := fun k l => runI k l.length, cnt := List.length }
section
variable {α : Type} [Mk α]
def mks (k : Int) : List α → List α
  | [] => []
  | a :: r => Mk.mrk k a :: mks (k + Mk.cnt a) r
def cnts : List α → Nat
  | [] => 0
  | a :: r => Mk.cnt a + cnts r
theorem mks_len : ∀ (k : Int) (l : List α), (mks k l).length = l.length
  | _, [] => rfl
  | k, a :: r => by rw [mks, List.length_cons, List.length_cons, mks_len]
theorem mks_get : ∀ (k : Int) (l : List α) (i : Nat), i < l.length → (mks k l).getD i default = Mk.mrk (k + cnts (l.take i)) (l.getD i default)
  | k, a :: r, 0, _ => by simp [mks, cnts]
  | k, a :: r, i + 1, h => by
    have := mks_get (k + Mk.cnt a) r i (by simpa using h)
    simp only [mks, List.getD_cons_succ, this, List.take_succ_cons, cnts]
    congr 1; simp; omega
theorem cnts_append : ∀ (l m : List α), cnts (l ++ m) = cnts l + cnts m
  | [], m => by simp [cnts]
  | a :: r, m => by simp [cnts, cnts_append r m]; omega
theorem cnts_take (l : List α) (i : Nat) (h : i < l.length) : cnts (l.take (i + 1)) = cnts (l.take i) + Mk.cnt (l.getD i default) := by
  rw [take_succ_eq l i default h, cnts_append]; simp [cnts]
theorem cnts_le (l : List α) (i : Nat) : cnts (l.take i) ≤ cnts l := by
  have := cnts_append (l.take i) (l.drop i)
  rw [List.take_append_drop] at this
  omega
theorem cnts_le1 (l : List α) (i : Nat) (h : i < l.length) : cnts (l.take i) + Mk.cnt (l.getD i default) ≤ cnts l := by
  rw [← cnts_take l i h]; exact cnts_le l _
instance : Mk (List α) := { mrk := mks, cnt := cnts }
end
def sizeL {α : Type} [Mk α] (l : List α) : Nat := l.length + cnts l
theorem mem_getD {α : Type} (l : List α) (i : Nat) (d : α) (h : i < l.length) : l.getD i d ∈ l := by rw [getD_eq l i d h]; exact List.getElem_mem h
theorem mk_ints (k : Int) (l : List Int) : Mk.mrk k l = runI k l.length := rfl
theorem cnt_ints (l : List Int) : Mk.cnt l = l.length := rfl
theorem hdV (x d : Value) (l : List Value) : (x :: l).headD d = x := rfl
theorem repI (n : Nat) (x : Int) : List.replicate n (AV.v (.int .i64 x)) = (List.replicate n x).map AV.i64 := by simp
theorem bbeq (b : Bool) : (b == b) = true := by cases b <;> rfl
theorem lenr : type_of% (And.intro (@List.length_map.{0,0}) (And.intro (@List.length_set.{0}) (And.intro (@List.length_append.{0}) (And.intro (@List.length_cons.{0}) (And.intro (@List.length_nil.{0}) (And.intro (@List.length_replicate.{0}) (And.intro (@List.length_take.{0}) (And.intro runI_len (And.intro (@mks_len) (And.intro (@List.length_range) (@List.length_drop.{0}))))))))))) :=
  And.intro (@List.length_map.{0,0}) (And.intro (@List.length_set.{0}) (And.intro (@List.length_append.{0}) (And.intro (@List.length_cons.{0}) (And.intro (@List.length_nil.{0}) (And.intro (@List.length_replicate.{0}) (And.intro (@List.length_take.{0}) (And.intro runI_len (And.intro (@mks_len) (And.intro (@List.length_range) (@List.length_drop.{0}))))))))))
theorem bu0 : type_of% (And.intro gi (And.intro @gm (And.intro @set_map (And.intro @map_snoc (And.intro @take_map_all (And.intro @map_take (And.intro @map_drop (And.intro ints_fz (And.intro cast1 (And.intro @getD_set_same (And.intro (@List.set_set.{0}) (And.intro hdV (And.intro repI (And.intro (@List.take_of_length_le.{0}) bbeq)))))))))))))) :=
  And.intro gi (And.intro @gm (And.intro @set_map (And.intro @map_snoc (And.intro @take_map_all (And.intro @map_take (And.intro @map_drop (And.intro ints_fz (And.intro cast1 (And.intro @getD_set_same (And.intro (@List.set_set.{0}) (And.intro hdV (And.intro repI (And.intro (@List.take_of_length_le.{0}) bbeq)))))))))))))
end Go.AM

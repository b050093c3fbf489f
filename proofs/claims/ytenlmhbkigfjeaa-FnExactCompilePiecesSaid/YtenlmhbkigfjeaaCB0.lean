/-
  CONTRACTS of functions of the program, and what they compute, by content.
-/
import Derived.Test.YtenlmhbkigfjeaaM2Tool
import Derived.Test.YtenlmhbkigfjeaaM2Facts
import Derived.Test.YtenlmhbkigfjeaaM2SD
set_option linter.unusedVariables false
set_option linter.unusedSimpArgs false
namespace Go.AM
/-! content: lists of numbers, lists of things -/
abbrev ints (l : List Int) : List AV := l.map AV.i64
abbrev isl (l : List Int) : AV := .sl 1 (l.map AV.i64)
abbrev itr (l : List Int) : AV := .tr 1 (l.map AV.i64)
class Thing (α : Type) extends Inhabited α
instance : Thing (List Int) := ⟨⟩
instance : Thing (List (List Int)) := ⟨⟩
theorem gm {α : Type} [Thing α] (f : α → AV) (l : List α) (i : Nat) (h : i < l.length) : (l.map f).getD i .any = f (l.getD i default) := by
  simp [List.getD, h]
theorem gi (l : List Int) (i : Nat) (h : i < l.length) : (l.map AV.i64).getD i .any = .i64 (l.getD i 0) := by
  simp [List.getD, h]
theorem set_map {α : Type} (f : α → AV) (l : List α) (i : Nat) (x : α) : (l.map f).set i (f x) = (l.set i x).map f := by
  rw [List.map_set]
theorem map_snoc {α : Type} (f : α → AV) (l : List α) (x : α) : l.map f ++ [f x] = (l ++ [x]).map f := by simp
theorem map_take {α : Type} (f : α → AV) (l : List α) (n : Nat) : (l.map f).take n = (l.take n).map f := by rw [List.map_take]
theorem map_drop {α : Type} (f : α → AV) (l : List α) (n : Nat) : (l.map f).drop n = (l.drop n).map f := by rw [List.map_drop]
theorem take_map_all {α : Type} (f : α → AV) (l : List α) (n : Nat) (h : n = l.length) : (l.map f).take n = l.map f := by
  rw [List.take_of_length_le]; simp; omega
theorem ints_fz (l : List Int) : (l.map AV.i64).map AV.fz = l.map AV.i64 := by simp [fz_v]
theorem i64c {a b : Int} (h : a = b) : AV.i64 a = AV.i64 b := by rw [h]
theorem vic {k : IntKind} {a b : Int} (h : a = b) : Value.int k a = Value.int k b := by rw [h]
theorem cast1 (j : Nat) : ((j : Int) + 1) = ((j + 1 : Nat) : Int) := by simp
theorem bl_eq {a b : Bool} (h : a = true ↔ b = true) : Value.bool a = Value.bool b := by rw [Bool.eq_iff_iff.2 h]
theorem getD_eq {α : Type} (l : List α) (i : Nat) (d : α) (h : i < l.length) : l.getD i d = l[i] := by simp [List.getD, h]
theorem take_succ_eq {α : Type} (l : List α) (i : Nat) (d : α) (h : i < l.length) : l.take (i + 1) = l.take i ++ [l.getD i d] := by
  rw [List.take_succ_eq_append_getElem h, getD_eq l i d h]
theorem mem_take_succ {α : Type} {l : List α} {i : Nat} {d : α} (h : i < l.length) {p : α → Prop} : (∀ x ∈ l.take (i + 1), p x) ↔ (∀ x ∈ l.take i, p x) ∧ p (l.getD i d) := by
  rw [take_succ_eq l i d h]
  constructor
  · intro q; exact ⟨fun x hx => q x (by simp [hx]), q _ (by simp)⟩
  · rintro ⟨q1, q2⟩ x hx
    rcases List.mem_append.1 hx with hx | hx
    · exact q1 x hx
    · rw [List.mem_singleton.1 hx]; exact q2
theorem take_eq_iff {α : Type} {a b : List α} (d : α) (k : Nat) (hk : k < a.length) (hk' : k < b.length) : a.take (k + 1) = b.take (k + 1) ↔ a.take k = b.take k ∧ a.getD k d = b.getD k d := by
  rw [take_succ_eq a k d hk, take_succ_eq b k d hk']
  constructor
  · intro h
    obtain ⟨h1, h2⟩ := List.append_inj h (by simp; omega)
    exact ⟨h1, by simpa using h2⟩
  · rintro ⟨h1, h2⟩; rw [h1, h2]
theorem eq_of_takes {α : Type} {a b : List α} (hl : a.length = b.length) (h : a.take a.length = b.take a.length) : a = b := by
  have e1 : a.take a.length = a := List.take_length
  have e2 : b.take a.length = b := by rw [hl]; exact List.take_length
  rw [← e1, ← e2]; exact h
def runI (k : Int) (n : Nat) : List Int := (List.range n).map fun i => k + (i : Nat)
theorem runI_len (k : Int) (n : Nat) : (runI k n).length = n := by simp [runI]
theorem runI_get (k : Int) (n i : Nat) (h : i < n) : (runI k n).getD i 0 = k + i := by simp [runI, List.getD, h]
def mixL {α : Type} (a b : List α) (n : Nat) : List α := a.take n ++ b.drop n
theorem mixL_zero {α : Type} (a b : List α) : mixL a b 0 = b := by simp [mixL]
theorem mixL_all {α : Type} (a b : List α) (n : Nat) (h : a.length ≤ n) (h' : b.length ≤ n) : mixL a b n = a := by
  simp [mixL, List.take_of_length_le h, List.drop_of_length_le h']
theorem mixL_len {α : Type} (a b : List α) (n : Nat) (h : a.length = b.length) : (mixL a b n).length = b.length := by
  simp [mixL]; omega
theorem mixL_set {α : Type} (a b : List α) (n : Nat) (d : α) (h : a.length = b.length) (hn : n < b.length) : (mixL a b n).set n (a.getD n d) = mixL a b (n + 1) := by
  apply List.ext_getElem
  · simp [mixL]; omega
  · intro i h1 h2
    simp only [mixL, List.getElem_set, List.getElem_append, List.length_take, List.getElem_take, List.getElem_drop]
    have hd : a.getD n d = a[n]'(by omega) := getD_eq a n d (by omega)
    by_cases e : n = i
    · subst e; rw [if_pos rfl, dif_pos (by omega)]; exact hd
    · by_cases hlt : i < n
      · rw [if_neg e, dif_pos (by omega), dif_pos (by omega)]
      · rw [if_neg e, dif_neg (by omega), dif_neg (by omega)]
        congr 1; omega
theorem mixL_get {α : Type} (a b : List α) (n : Nat) (d : α) (h : a.length = b.length) (hn : n < b.length) : (mixL a b n).getD n d = b.getD n d := by
  have hl := mixL_len a b n h
  rw [getD_eq _ _ _ (by omega), getD_eq _ _ _ hn]
  simp only [mixL, List.getElem_append, List.length_take]
  rw [dif_neg (by omega)]
  simp only [List.getElem_drop]
  congr 1; omega
def szR (k : Int) (n : Nat) : Int := if k - n < 0 then -1 else k - n
theorem szR_neg {k : Int} {n : Nat} (h : k - n < 0) : szR k n = -1 := if_pos h
theorem szR_pos {k : Int} {n : Nat} (h : 0 ≤ k - n) : szR k n = k - n := if_neg (by omega)
def within (x lo hi : Int) : Bool := decide (lo ≤ x) && decide (x ≤ hi)
theorem within_iff {x lo hi : Int} : within x lo hi = true ↔ lo ≤ x ∧ x ≤ hi := by simp [within]
theorem within_not {x lo hi : Int} : within x lo hi = false ↔ ¬ (lo ≤ x ∧ x ≤ hi) := by rw [← within_iff]; simp
theorem getD_set_same {α : Type} (l : List α) (i : Nat) (x d : α) (h : i < l.length) : (l.set i x).getD i d = x := by simp [List.getD, h]
class Mk (α : Type) extends Thing α where
  mrk : Int → α → α
  cnt : α → Nat
instance : Mk (List Int) := { mrk := fun k l => runI k l.length, cnt := List.length }
section
variable {α : Type} [Mk α]
def mks (k : Int) : List α → List α
  | [] => []
  | a :: r => Mk.mrk k a :: mks (k + Mk.cnt a) r
def cnts : List α → Nat
  | [] => 0
  | a :: r => Mk.cnt a + cnts r
theorem mks_len : ∀ (k : Int) (l : List α), (mks k l).length = l.length
  | _, [] => rfl
  | k, a :: r => by rw [mks, List.length_cons, List.length_cons, mks_len]
theorem mks_get : ∀ (k : Int) (l : List α) (i : Nat), i < l.length → (mks k l).getD i default = Mk.mrk (k + cnts (l.take i)) (l.getD i default)
  | k, a :: r, 0, _ => by simp [mks, cnts]
  | k, a :: r, i + 1, h => by
    have := mks_get (k + Mk.cnt a) r i (by simpa using h)
    simp only [mks, List.getD_cons_succ, this, List.take_succ_cons, cnts]
    congr 1; simp; omega
theorem cnts_append : ∀ (l m : List α), cnts (l ++ m) = cnts l + cnts m
  | [], m => by simp [cnts]
  | a :: r, m => by simp [cnts, cnts_append r m]; omega
theorem cnts_take (l : List α) (i : Nat) (h : i < l.length) : cnts (l.take (i + 1)) = cnts (l.take i) + Mk.cnt (l.getD i default) := by
  rw [take_succ_eq l i default h, cnts_append]; simp [cnts]
theorem cnts_le (l : List α) (i : Nat) : cnts (l.take i) ≤ cnts l := by
  have := cnts_append (l.take i) (l.drop i)
  rw [List.take_append_drop] at this
  omega
theorem cnts_le1 (l : List α) (i : Nat) (h : i < l.length) : cnts (l.take i) + Mk.cnt (l.getD i default) ≤ cnts l := by
  rw [← cnts_take l i h]; exact cnts_le l _
theorem cnts_mem : ∀ {l : List α} {a : α}, a ∈ l → Mk.cnt a ≤ cnts l
  | b :: r, a, h => by
    rcases List.mem_cons.1 h with rfl | h
    · simp [cnts]
    · have := cnts_mem h; simp only [cnts]; omega
theorem cnts_bound : ∀ (l : List α) (b : Nat), (∀ a ∈ l, Mk.cnt a ≤ b) → cnts l ≤ b * l.length
  | [], _, _ => by simp [cnts]
  | a :: r, b, h => by
    have := cnts_bound r b fun x hx => h x (by simp [hx])
    have := h a (by simp)
    simp only [cnts, List.length_cons, Nat.mul_succ]; omega
instance : Mk (List α) := { mrk := mks, cnt := cnts }
end
def sizeL {α : Type} [Mk α] (l : List α) : Nat := l.length + cnts l
theorem mem_getD {α : Type} (l : List α) (i : Nat) (d : α) (h : i < l.length) : l.getD i d ∈ l := by rw [getD_eq l i d h]; exact List.getElem_mem h
theorem mk_ints (k : Int) (l : List Int) : Mk.mrk k l = runI k l.length := rfl
theorem cnt_ints (l : List Int) : Mk.cnt l = l.length := rfl
theorem hdV (x d : Value) (l : List Value) : (x :: l).headD d = x := rfl
theorem repI (n : Nat) (x : Int) : List.replicate n (AV.v (.int .i64 x)) = (List.replicate n x).map AV.i64 := by simp
theorem bbeq (b : Bool) : (b == b) = true := by cases b <;> rfl
theorem lenr : type_of% (And.intro (@List.length_map.{0,0}) (And.intro (@List.length_set.{0}) (And.intro (@List.length_append.{0}) (And.intro (@List.length_cons.{0}) (And.intro (@List.length_nil.{0}) (And.intro (@List.length_replicate.{0}) (And.intro (@List.length_take.{0}) (And.intro runI_len (And.intro (@mks_len) (And.intro (@List.length_range) (@List.length_drop.{0}))))))))))) :=
  And.intro (@List.length_map.{0,0}) (And.intro (@List.length_set.{0}) (And.intro (@List.length_append.{0}) (And.intro (@List.length_cons.{0}) (And.intro (@List.length_nil.{0}) (And.intro (@List.length_replicate.{0}) (And.intro (@List.length_take.{0}) (And.intro runI_len (And.intro (@mks_len) (And.intro (@List.length_range) (@List.length_drop.{0}))))))))))
theorem bu0 : type_of% (And.intro gi (And.intro @gm (And.intro @set_map (And.intro @map_snoc (And.intro @take_map_all (And.intro @map_take (And.intro @map_drop (And.intro ints_fz (And.intro cast1 (And.intro @getD_set_same (And.intro (@List.set_set.{0}) (And.intro hdV (And.intro repI (And.intro (@List.take_of_length_le.{0}) bbeq)))))))))))))) :=
  And.intro gi (And.intro @gm (And.intro @set_map (And.intro @map_snoc (And.intro @take_map_all (And.intro @map_take (And.intro @map_drop (And.intro ints_fz (And.intro cast1 (And.intro @getD_set_same (And.intro (@List.set_set.{0}) (And.intro hdV (And.intro repI (And.intro (@List.take_of_length_le.{0}) bbeq)))))))))))))
end Go.AM
namespace Go.AM
/-! permutations, plainly -/
def isPerm (p : List Int) : Prop := (1 ≤ p.length ∧ p.length ≤ 20) ∧ (∀ x ∈ p, 0 ≤ x ∧ x < p.length) ∧ p.Nodup
instance (p : List Int) : Decidable (isPerm p) := by unfold isPerm; infer_instance
theorem len_le_of_sub {α : Type} [DecidableEq α] : ∀ (a b : List α), a.Nodup → (∀ x ∈ a, x ∈ b) → a.length ≤ b.length
  | [], _, _, _ => Nat.zero_le _
  | x :: a, b, hn, hs => by
    have hx := hs x (by simp)
    have h1 := len_le_of_sub a (b.erase x) (List.nodup_cons.1 hn).2 fun y hy => (List.mem_erase_of_ne (by rintro rfl; exact (List.nodup_cons.1 hn).1 hy)).2 (hs y (by simp [hy]))
    rw [List.length_erase_of_mem hx] at h1
    have : 0 < b.length := List.length_pos_of_mem hx
    simp; omega
theorem dup_of_not_nodup {α : Type} [DecidableEq α] : ∀ (p : List α), ¬ p.Nodup → ∃ x, x ∈ p.erase x
  | [], h => (h List.nodup_nil).elim
  | a :: r, h => by
    by_cases ha : a ∈ r
    · exact ⟨a, by simpa using ha⟩
    · obtain ⟨x, hx⟩ := dup_of_not_nodup r fun q => h (List.nodup_cons.2 ⟨ha, q⟩)
      refine ⟨x, ?_⟩
      have : x ≠ a := by rintro rfl; exact ha (List.mem_of_mem_erase hx)
      rw [List.erase_cons, if_neg (by simpa using fun e => this e.symm)]
      simp [hx]
theorem nodup_iff_all (p : List Nat) (n : Nat) (hl : p.length = n) (hlt : ∀ x ∈ p, x < n) : p.Nodup ↔ ∀ i, i < n → i ∈ p := by
  constructor
  · intro hn i hi
    apply Decidable.byContradiction
    intro hni
    have := len_le_of_sub p ((List.range n).erase i) hn fun x hx => (List.mem_erase_of_ne (by rintro rfl; exact hni hx)).2 (List.mem_range.2 (hlt x hx))
    rw [List.length_erase_of_mem (List.mem_range.2 hi), List.length_range] at this
    omega
  · intro h
    apply Decidable.byContradiction
    intro hn
    obtain ⟨x, hx⟩ := dup_of_not_nodup p hn
    have hxp := List.mem_of_mem_erase hx
    have := len_le_of_sub (List.range n) (p.erase x) List.nodup_range fun y hy => by
      by_cases e : y = x
      · subst e; exact hx
      · exact (List.mem_erase_of_ne e).2 (h y (List.mem_range.1 hy))
    rw [List.length_erase_of_mem hxp, List.length_range] at this
    have := List.length_pos_of_mem hxp
    omega
def maskN : List Nat → Nat
  | [] => 0
  | x :: r => (2 ^ x) ||| maskN r
theorem maskN_bit (l : List Nat) (i : Nat) : (maskN l).testBit i = true ↔ i ∈ l := by
  induction l with
  | nil => simp [maskN]
  | cons x r ih => rw [maskN, Nat.testBit_or, Bool.or_eq_true, ih, Nat.testBit_two_pow]; simp [eq_comm]
theorem maskN_snoc (l : List Nat) (x : Nat) : maskN (l ++ [x]) = maskN l ||| 2 ^ x := by
  apply Nat.eq_of_testBit_eq; intro i
  rw [Bool.eq_iff_iff, Nat.testBit_or, Bool.or_eq_true, maskN_bit, maskN_bit, Nat.testBit_two_pow]; simp [eq_comm]
theorem maskN_lt (l : List Nat) (n : Nat) (h : ∀ x ∈ l, x < n) : maskN l < 2 ^ n := by
  induction l with
  | nil => simp [maskN]; exact Nat.pow_pos (by decide)
  | cons x r ih => exact Nat.or_lt_two_pow (Nat.pow_lt_pow_right (by decide) (h x (by simp))) (ih fun y hy => h y (by simp [hy]))
theorem maskN_full (l : List Nat) (n : Nat) (h : ∀ x ∈ l, x < n) : maskN l = 2 ^ n - 1 ↔ ∀ i, i < n → i ∈ l := by
  constructor
  · intro e i hi
    rw [← maskN_bit, e, Nat.testBit_two_pow_sub_one]; simpa using hi
  · intro q
    apply Nat.eq_of_testBit_eq; intro i
    rw [Bool.eq_iff_iff, maskN_bit, Nat.testBit_two_pow_sub_one, decide_eq_true_iff]
    exact ⟨fun hi => h i hi, q i⟩
def mask (p : List Int) : Nat := maskN (p.map Int.toNat)
theorem mask_snoc (l : List Int) (x : Int) : mask (l ++ [x]) = mask l ||| 2 ^ x.toNat := by simp [mask, maskN_snoc]
theorem mask_perm (p : List Int) (h : ∀ x ∈ p, 0 ≤ x ∧ x < p.length) : mask p = 2 ^ p.length - 1 ↔ p.Nodup := by
  have hlt : ∀ x ∈ p.map Int.toNat, x < p.length := by
    intro x hx
    obtain ⟨y, hy, rfl⟩ := List.mem_map.1 hx
    have := h y hy; omega
  rw [mask, maskN_full _ _ hlt, ← nodup_iff_all _ _ (by simp) hlt, List.Nodup, List.Nodup, List.pairwise_map]
  constructor
  · intro q; exact q.imp fun hab e => hab (by rw [e])
  · intro q
    refine (List.Pairwise.imp_of_mem ?_ q)
    intro a b ha hb hab e
    have := h a ha; have := h b hb; exact hab (by omega)
theorem mask_lt (p : List Int) (n : Nat) (h : ∀ x ∈ p, 0 ≤ x ∧ x < n) : mask p < 2 ^ n := by
  apply maskN_lt
  intro x hx
  obtain ⟨y, hy, rfl⟩ := List.mem_map.1 hx
  have := h y hy; omega
theorem bits_or (a b : Nat) (ha : a < 2 ^ 62) (hb : b < 2 ^ 62) : bitsI .or .i64 (a : Int) (b : Int) = ((a ||| b : Nat) : Int) := by
  have h1 : a ||| b < 2 ^ 62 := Nat.or_lt_two_pow ha hb
  have e1 : (BitVec.ofInt 64 (a : Int)).toNat = a := by rw [BitVec.toNat_ofInt]; omega
  have e2 : (BitVec.ofInt 64 (b : Int)).toNat = b := by rw [BitVec.toNat_ofInt]; omega
  show IntKind.i64.wrap ((BitVec.ofInt 64 (a : Int) ||| BitVec.ofInt 64 (b : Int)).toNat : Int) = _
  rw [BitVec.toNat_or, e1, e2]
  apply wrap64_id; omega
end Go.AM
namespace Go.AM
/-! kinds, plainly -/
structure Kind where
  c : Int
  o : Int
  deriving DecidableEq
instance : Mk Kind := { default := ⟨0, 0⟩, mrk := fun k _ => ⟨k, k + 1⟩, cnt := fun _ => 2 }
structure Twist where
  to : List Int
  by' : List Int
  deriving DecidableEq
instance : Mk Twist := { default := ⟨[], []⟩, mrk := fun k t => ⟨runI k t.to.length, runI (k + t.to.length) t.by'.length⟩, cnt := fun t => t.to.length + t.by'.length }
def kOk (k : Kind) : Prop := (1 ≤ k.c ∧ k.c ≤ 20) ∧ (1 ≤ k.o ∧ k.o ≤ 20)
instance (k : Kind) : Decidable (kOk k) := by unfold kOk; infer_instance
def facets : List Kind → Int
  | [] => 0
  | k :: r => k.c * k.o + facets r
theorem facets_append : ∀ a b : List Kind, facets (a ++ b) = facets a + facets b
  | [], b => by simp [facets]
  | k :: r, b => by simp only [List.cons_append, facets, facets_append r b]; omega
theorem facets_take (l : List Kind) (i : Nat) (h : i < l.length) : facets (l.take (i + 1)) = facets (l.take i) + (l.getD i default).c * (l.getD i default).o := by
  rw [take_succ_eq l i default h, facets_append]; simp [facets]
theorem kOk_prod {k : Kind} (h : kOk k) : 1 ≤ k.c * k.o ∧ k.c * k.o ≤ 400 ∧ k.c ≤ k.c * k.o ∧ k.o ≤ k.c * k.o := by
  obtain ⟨⟨h1, h2⟩, h3, h4⟩ := h
  have a1 : 1 * 1 ≤ k.c * k.o := Int.mul_le_mul h1 h3 (by omega) (by omega)
  have a2 : k.c * k.o ≤ 20 * 20 := Int.mul_le_mul h2 h4 (by omega) (by omega)
  have a3 : k.c * 1 ≤ k.c * k.o := Int.mul_le_mul_of_nonneg_left h3 (by omega)
  have a4 : 1 * k.o ≤ k.c * k.o := Int.mul_le_mul_of_nonneg_right h1 (by omega)
  omega
theorem facets_bound : ∀ l : List Kind, (∀ k ∈ l, kOk k) → (l.length : Int) ≤ facets l ∧ facets l ≤ 400 * l.length
  | [], _ => by simp [facets]
  | k :: r, h => by
    have h1 := facets_bound r fun x hx => h x (by simp [hx])
    have h2 := kOk_prod (h k (by simp))
    simp only [facets, List.length_cons]; omega
def kindsOk (l : List Kind) : Prop := (1 ≤ l.length ∧ l.length ≤ 3) ∧ (∀ k ∈ l, kOk k) ∧ facets l ≤ 20
instance (l : List Kind) : Decidable (kindsOk l) := by unfold kindsOk; infer_instance
theorem facets_mono (l : List Kind) (h : ∀ k ∈ l, kOk k) (i : Nat) : facets (l.take i) ≤ facets l ∧ 0 ≤ facets (l.take i) := by
  have e := facets_append (l.take i) (l.drop i)
  rw [List.take_append_drop] at e
  have h1 := facets_bound (l.drop i) fun x hx => h x (List.mem_of_mem_drop hx)
  have h2 := facets_bound (l.take i) fun x hx => h x (List.mem_of_mem_take hx)
  omega
def fct : Nat → Nat
  | 0 => 1
  | n + 1 => (n + 1) * fct n
def stK (o : Nat) : Nat → Nat
  | 0 => 1
  | j + 1 => stK o j * ((j + 1) * o)
def stC : List Kind → Nat
  | [] => 1
  | k :: r => stK k.o.toNat k.c.toNat * stC r
def twOk (k : Kind) (t : Twist) : Prop := (t.to.length : Int) = k.c ∧ (t.by'.length : Int) = k.c ∧ isPerm t.to ∧ ∀ x ∈ t.by', 0 ≤ x ∧ x < k.o
instance (k : Kind) (t : Twist) : Decidable (twOk k t) := by unfold twOk; infer_instance
def psOk (ks : List Kind) (s : List Twist) : Prop := kindsOk ks ∧ s.length = ks.length ∧ ∀ i, i < ks.length → twOk (ks.getD i default) (s.getD i default)
instance (ks : List Kind) (s : List Twist) : Decidable (psOk ks s) := by unfold psOk; infer_instance
def Kind.av (k : Kind) : AV := .agg [.i64 k.c, .i64 k.o]
abbrev ksl (ks : List Kind) : AV := .sl 2 (ks.map Kind.av)
abbrev ktr (ks : List Kind) : AV := .tr 2 (ks.map Kind.av)
theorem kset (ks : List Kind) (i : Nat) (a b : Int) : (ks.map Kind.av).set i (.agg [.i64 a, .i64 b]) = (ks.set i ⟨a, b⟩).map Kind.av := by rw [List.map_set]; rfl
theorem ksnoc (ks : List Kind) (a b : Int) : ks.map Kind.av ++ [.agg [.i64 a, .i64 b]] = (ks ++ [(⟨a, b⟩ : Kind)]).map Kind.av := by simp [Kind.av]
theorem pureL_map {α : Type} (f : α → AV) (h : ∀ a, (f a).pure = true) : ∀ l : List α, AV.pureL (l.map f) = true
  | [] => rfl
  | a :: r => by rw [List.map_cons, AV.pureL, h, pureL_map f h r]; rfl
theorem ipure (l : List Int) : AV.pureL (l.map AV.i64) = true := pureL_map _ (fun _ => rfl) l
abbrev ssl (l : List (List Int)) : AV := .sl 1 (l.map isl)
abbrev sst (l : List (List Int)) : AV := .tr 1 (l.map itr)
theorem sspure (l : List (List Int)) : AV.pureL (l.map itr) = true := pureL_map _ (fun t => by simp [itr, AV.pure, ipure]) l
theorem ssfz (l : List (List Int)) : (l.map itr).map AV.fz = l.map isl := by
  rw [List.map_map]; exact List.map_congr_left fun a _ => by simp [AV.fz, fzL_map, ints_fz]
theorem kpure (l : List Kind) : AV.pureL (l.map Kind.av) = true := pureL_map _ (fun _ => rfl) l
theorem kfz (ks : List Kind) : (ks.map Kind.av).map AV.fz = ks.map Kind.av := by
  rw [List.map_map]; exact List.map_congr_left fun a _ => by simp [Kind.av, fz_v, AV.fz, AV.fzL]
def Twist.sl (t : Twist) : AV := .agg [isl t.to, isl t.by']
def Twist.tr (t : Twist) : AV := .agg [itr t.to, itr t.by']
abbrev tsl (ts : List Twist) : AV := .sl 2 (ts.map Twist.sl)
abbrev ttr (ts : List Twist) : AV := .tr 2 (ts.map Twist.tr)
theorem tset (ts : List Twist) (i : Nat) (a b : List Int) : (ts.map Twist.tr).set i (.agg [itr a, itr b]) = (ts.set i ⟨a, b⟩).map Twist.tr := by rw [List.map_set]; rfl
theorem tsnoc (ts : List Twist) (a b : List Int) : ts.map Twist.tr ++ [.agg [itr a, itr b]] = (ts ++ [(⟨a, b⟩ : Twist)]).map Twist.tr := by simp [Twist.tr]
theorem tpure (l : List Twist) : AV.pureL (l.map Twist.tr) = true := pureL_map _ (fun t => by simp [Twist.tr, AV.pure, AV.pureL, ipure]) l
theorem tfz (ts : List Twist) : (ts.map Twist.tr).map AV.fz = ts.map Twist.sl := by
  rw [List.map_map]; exact List.map_congr_left fun a _ => by simp [Twist.tr, Twist.sl, AV.fz, AV.fzL, fzL_map, ints_fz]
structure Invar where
  k : Int
  s : Int
  deriving DecidableEq
instance : Mk Invar := { default := ⟨0, 0⟩, mrk := fun k _ => ⟨k, k + 1⟩, cnt := fun _ => 2 }
def Invar.av (i : Invar) : AV := .agg [.i64 i.k, .i64 i.s]
end Go.AM
namespace Go.AM
/-! texts -/
theorem stsize (l : List UInt8) : ByteArray.size ⟨l.toArray⟩ = l.length := rfl
theorem stget (l : List UInt8) (i : Nat) (d : UInt8) : (ByteArray.mk l.toArray).data.toList.getD i d = l.getD i d := rfl
theorem sttl (l : List UInt8) : (ByteArray.mk l.toArray).toList = l := by simp
theorem stapp (a b : List UInt8) : (ByteArray.mk a.toArray) ++ (ByteArray.mk b.toArray) = ⟨(a ++ b).toArray⟩ := by
  apply ByteArray.ext; simp
theorem stext (l : List UInt8) (i j : Nat) : (ByteArray.mk l.toArray).extract i j = ⟨((l.take j).drop i).toArray⟩ := by
  apply ByteArray.ext; simp [List.drop_take]
theorem u8lt (b : UInt8) : b.toNat < 256 := UInt8.toNat_lt b
theorem u8eq {a b : UInt8} : ((a.toNat : Int) == (b.toNat : Int)) = decide (a = b) := by
  rw [Bool.eq_iff_iff, beq_iff_eq, decide_eq_true_iff]
  exact ⟨fun h => UInt8.toNat_inj.1 (by omega), fun h => by rw [h]⟩
def lettersOk (l : List UInt8) : Prop := (∀ b ∈ l, 65 ≤ b.toNat ∧ b.toNat ≤ 90) ∧ l.Nodup
instance (l : List UInt8) : Decidable (lettersOk l) := by unfold lettersOk; infer_instance
def namesOk (l : List UInt8) : Prop := lettersOk l ∧ 1 ≤ l.length ∧ l.length ≤ 8
instance (l : List UInt8) : Decidable (namesOk l) := by unfold namesOk; infer_instance
structure Model where
  ks : List Kind
  nm : List UInt8
  mv : List (List Twist)
  deriving DecidableEq
abbrev tssl (l : List (List Twist)) : AV := .sl 1 (l.map tsl)
abbrev tsst (l : List (List Twist)) : AV := .tr 1 (l.map ttr)
theorem tsspure (l : List (List Twist)) : AV.pureL (l.map ttr) = true := pureL_map _ (fun t => by simp [AV.pure, tpure]) l
theorem tssfz (l : List (List Twist)) : (l.map ttr).map AV.fz = l.map tsl := by
  rw [List.map_map]; exact List.map_congr_left fun a _ => by show (ttr a).fz = tsl a; rw [AV.fz, fzL_map, tfz]
def Model.sl (m : Model) : AV := .agg [ksl m.ks, .st m.nm, tssl m.mv]
def Model.tr (m : Model) : AV := .agg [ktr m.ks, .st m.nm, tsst m.mv]
def modelOk (m : Model) : Prop := kindsOk m.ks ∧ namesOk m.nm ∧ m.nm.length = m.mv.length ∧ ∀ s ∈ m.mv, psOk m.ks s
instance (m : Model) : Decidable (modelOk m) := by unfold modelOk; infer_instance
/-! what is done with piece states, plainly -/
def solvedK (k : Kind) : Twist := ⟨runI 0 k.c.toNat, List.replicate k.c.toNat 0⟩
def solvedR (ks : List Kind) : List Twist := if kindsOk ks then ks.map solvedK else []
def compI (p q : List Int) : List Int := p.map fun x => q.getD x.toNat 0
def scat {α : Type} (base : List α) (p : List Int) (v : Nat → α) : Nat → List α
  | 0 => base
  | i + 1 => (scat base p v i).set (p.getD i 0).toNat (v i)
def invI (p : List Int) : List Int := scat (List.replicate p.length 0) p (fun i => (i : Int)) p.length
def compB (o : Int) (a b : Twist) (i : Nat) : Int := (a.by'.getD i 0 + b.by'.getD (a.to.getD i 0).toNat 0).tmod o
def compT (o : Int) (a b : Twist) : Twist := ⟨compI a.to b.to, (List.range a.to.length).map (compB o a b)⟩
def compS (ks : List Kind) (a b : List Twist) : List Twist := (List.range ks.length).map fun n => compT (ks.getD n default).o (a.getD n default) (b.getD n default)
def invB (o : Int) (a : Twist) (i : Nat) : Int := (o - a.by'.getD i 0).tmod o
def invT (o : Int) (a : Twist) : Twist := ⟨invI a.to, scat (List.replicate a.to.length 0) a.to (invB o a) a.to.length⟩
def invS (ks : List Kind) (a : List Twist) : List Twist := (List.range ks.length).map fun n => invT (ks.getD n default).o (a.getD n default)
def cellL (base o to by' : Int) (j : Nat) : List Int := (List.range j).map fun (i : Nat) => base + to * o + ((i : Int) + by').tmod o
theorem cellL_succ (base o to by' : Int) (j : Nat) : cellL base o to by' (j + 1) = cellL base o to by' j ++ [base + to * o + ((j : Int) + by').tmod o] := by simp [cellL, List.range_succ]
theorem cellL_len (base o to by' : Int) (j : Nat) : (cellL base o to by' j).length = j := by simp [cellL]
def rowL (base o : Int) (t : Twist) : Nat → List Int
  | 0 => []
  | i + 1 => rowL base o t i ++ cellL base o (t.to.getD i 0) (t.by'.getD i 0) o.toNat
theorem rowL_len (base o : Int) (t : Twist) : ∀ i, (rowL base o t i).length = i * o.toNat
  | 0 => by simp [rowL]
  | i + 1 => by rw [rowL, List.length_append, rowL_len base o t i, cellL_len, Nat.succ_mul]
def permL (ks : List Kind) (s : List Twist) : Nat → List Int
  | 0 => []
  | n + 1 => permL ks s n ++ rowL (permL ks s n).length (ks.getD n default).o (s.getD n default) (ks.getD n default).c.toNat
theorem permL_len (ks : List Kind) (s : List Twist) (h : ∀ k ∈ ks, kOk k) : ∀ n, n ≤ ks.length → ((permL ks s n).length : Int) = facets (ks.take n)
  | 0, _ => by simp [permL, facets]
  | n + 1, hn => by
    have hk := h _ (mem_getD ks n default (by omega))
    rw [permL, List.length_append, rowL_len, facets_take ks n (by omega), Int.natCast_add, permL_len ks s h n (by omega), Int.natCast_mul, Int.toNat_of_nonneg (by have := hk.1; omega), Int.toNat_of_nonneg (by have := hk.2; omega)]
def permOf (ks : List Kind) (s : List Twist) : List Int := permL ks s ks.length
theorem tw_get {ks : List Kind} {s : List Twist} (h : psOk ks s) {n : Nat} (hn : n < ks.length) : twOk (ks.getD n default) (s.getD n default) := h.2.2 n hn
theorem twOk_facts {k : Kind} {t : Twist} (h : twOk k t) (hk : kOk k) : ∃ c o : Nat, k.c = c ∧ k.o = o ∧ t.to.length = c ∧ t.by'.length = c ∧ 1 ≤ c ∧ c ≤ 20 ∧ 1 ≤ o ∧ o ≤ 20 := by
  obtain ⟨h1, h2, h3, h4⟩ := h
  obtain ⟨h5, h6⟩ := hk
  exact ⟨t.to.length, k.o.toNat, h1.symm, by omega, rfl, by omega, by omega, by omega, by omega, by omega⟩
theorem to_get {k : Kind} {t : Twist} (h : twOk k t) {i : Nat} (hi : i < t.to.length) : 0 ≤ t.to.getD i 0 ∧ t.to.getD i 0 < t.to.length := h.2.2.1.2.1 _ (mem_getD t.to i 0 hi)
theorem by_get {k : Kind} {t : Twist} (h : twOk k t) {i : Nat} (hi : i < t.by'.length) : 0 ≤ t.by'.getD i 0 ∧ t.by'.getD i 0 < k.o := h.2.2.2 _ (mem_getD t.by' i 0 hi)
end Go.AM
namespace Go.AM
open Go.Proofs
theorem openInt : Opens Try.prog 2 Int (fun n => [AV.i64 n]) intOk := opens_int Try.underlying2
theorem openInts : Opens Try.prog 52 (List Int) (fun l => [AV.sl 1 (l.map AV.i64)]) (fun l => l.length ≤ 9223372036854775807 ∧ ∀ b ∈ l, intOk b) :=
  opens_slice Try.underlying52 (by kernel_rfl) (by decide) AV.i64 (fun _ => rfl) openInt
theorem openKind : Opens Try.prog 182 Kind (fun k => [AV.i64 k.c, AV.i64 k.o]) (fun k => intOk k.c ∧ intOk k.o) :=
  Opens.map (opens_struct Try.underlying182 (by kernel_rfl)
    (opensFs_cons 2 1 (by rfl) (by kernel_rfl) (by rfl) (by decide) openInt
    (opensFs_cons 2 1 (by rfl) (by kernel_rfl) (by rfl) (by decide) openInt opensFs_nil)))
    (fun p => Kind.mk p.1 p.2.1) (fun _ => rfl) (fun _ h => ⟨h.1, h.2.1⟩)
theorem openKinds : Opens Try.prog 58 (List Kind) (fun ks => [ksl ks]) (fun ks => ks.length ≤ 9223372036854775807 ∧ ∀ k ∈ ks, intOk k.c ∧ intOk k.o) :=
  opens_slice Try.underlying58 (by kernel_rfl) (by decide) Kind.av (fun _ => rfl) openKind
theorem openTwist : Opens Try.prog 207 Twist (fun t => [AV.sl 1 (t.to.map AV.i64), AV.sl 1 (t.by'.map AV.i64)]) (fun t => t.to.length ≤ 9223372036854775807 ∧ t.by'.length ≤ 9223372036854775807 ∧ (∀ b ∈ t.to, intOk b) ∧ ∀ b ∈ t.by', intOk b) :=
  Opens.map (opens_struct Try.underlying207 (by kernel_rfl)
    (opensFs_cons 52 1 (by rfl) (by kernel_rfl) (by rfl) (by decide) openInts
    (opensFs_cons 52 1 (by rfl) (by kernel_rfl) (by rfl) (by decide) openInts opensFs_nil)))
    (fun p => Twist.mk p.1 p.2.1) (fun _ => rfl) (fun _ h => ⟨h.1.1, h.2.1.1, h.1.2, h.2.1.2⟩)
theorem openTwists : Opens Try.prog 180 (List Twist) (fun ts => [tsl ts]) (fun ts => ts.length ≤ 9223372036854775807 ∧ ∀ t ∈ ts, t.to.length ≤ 9223372036854775807 ∧ t.by'.length ≤ 9223372036854775807 ∧ (∀ b ∈ t.to, intOk b) ∧ ∀ b ∈ t.by', intOk b) :=
  opens_slice Try.underlying180 (by kernel_rfl) (by decide) Twist.sl (fun _ => rfl) openTwist
theorem openString : Opens Try.prog 9 (List UInt8) (fun l => [AV.st l]) (fun l => l.length ≤ 9223372036854775807) := opens_string Try.underlying9
theorem openTwistss : Opens Try.prog 59 (List (List Twist)) (fun l => [tssl l]) (fun l => l.length ≤ 9223372036854775807 ∧ ∀ ts ∈ l, ts.length ≤ 9223372036854775807 ∧ ∀ t ∈ ts, t.to.length ≤ 9223372036854775807 ∧ t.by'.length ≤ 9223372036854775807 ∧ (∀ b ∈ t.to, intOk b) ∧ ∀ b ∈ t.by', intOk b) :=
  opens_slice Try.underlying59 (by kernel_rfl) (by decide) tsl (fun _ => rfl) openTwists
theorem openPieceModel : Opens Try.prog 61 Model (fun m => [ksl m.ks, .st m.nm, tssl m.mv]) (fun m => m.ks.length ≤ 9223372036854775807 ∧ m.nm.length ≤ 9223372036854775807 ∧ m.mv.length ≤ 9223372036854775807 ∧ ∀ s ∈ m.mv, s.length ≤ 9223372036854775807 ∧ ∀ t ∈ s, t.to.length ≤ 9223372036854775807 ∧ t.by'.length ≤ 9223372036854775807) :=
  Opens.map (opens_struct Try.underlying61 (by kernel_rfl)
    (opensFs_cons 58 1 (by rfl) (by kernel_rfl) (by rfl) (by decide) openKinds
    (opensFs_cons 9 1 (by rfl) (by kernel_rfl) (by rfl) (by decide) openString
    (opensFs_cons 59 1 (by rfl) (by kernel_rfl) (by rfl) (by decide) openTwistss opensFs_nil))))
    (fun p => Model.mk p.1 p.2.1 p.2.2.1) (fun _ => rfl) (fun _ h => ⟨h.1.1, h.2.1, h.2.2.1.1, fun s hs => ⟨(h.2.2.1.2 s hs).1, fun t ht => ⟨((h.2.2.1.2 s hs).2 t ht).1, ((h.2.2.1.2 s hs).2 t ht).2.1⟩⟩⟩)
end Go.AM
set_option maxRecDepth 8000
namespace Go.AM
open Go.Proofs
def MM : FuncId → List Bool := fun f => if f = 56 then [true, false] else if f = 114 then [true, false] else if f = 194 then [true, false] else if f = 116 then [true, false] else if f = 40 then [true, false] else if f = 63 then [true, false] else if f = 115 then [true, false] else if f = 39 then [true, false] else if f = 213 then [true] else if f = 196 then [true, false] else []
abbrev big : Int := 1099511627776
theorem szInt64S (l : List Int) (k : Int) (hk : intOk k) (h0 : 0 ≤ k) (hl : l.length ≤ 9223372036854775807) : SpecAt Try.prog 207 [isl l, .i64 k] (.i64 (szR k l.length)) := by
  unfold intOk at hk
  refine spec_of_awp (M := MM) (np := 2) (fz := true) mixed Try.func207 rfl rfl (by decide) rfl (Nat.le_refl _) (by decide +kernel) (.inr ⟨rfl, rfl⟩) trivial ?_
  simp -dsimp -implicitDefEqProofs (disch := first | omega | (simp only [lenr]; done) | (simp only [lenr]; omega)) only [↓amPre, amAll, ↓reduceIte, reduceCtorEq, Nat.reduceEqDiff, Nat.reduceBEq, Nat.reduceAdd, Nat.reduceLeDiff, Nat.reduceSub, Nat.reduceMul, Int.reduceToNat, List.size_toArray, tyF, MM, bu0]
  refine ifP_mk ?_ ?_ <;> intro h1
  · simp -dsimp -implicitDefEqProofs (disch := first | omega | (simp only [lenr]; done) | (simp only [lenr]; omega)) only [↓amPre, amAll, ↓reduceIte, reduceCtorEq, Nat.reduceEqDiff, Nat.reduceBEq, Nat.reduceAdd, Nat.reduceLeDiff, Nat.reduceSub, Nat.reduceMul, Int.reduceToNat, List.size_toArray, tyF, MM, bu0, h1]
    simp at h1
    simp [szR, h1]
  · simp -dsimp -implicitDefEqProofs (disch := first | omega | (simp only [lenr]; done) | (simp only [lenr]; omega)) only [↓amPre, amAll, ↓reduceIte, reduceCtorEq, Nat.reduceEqDiff, Nat.reduceBEq, Nat.reduceAdd, Nat.reduceLeDiff, Nat.reduceSub, Nat.reduceMul, Int.reduceToNat, List.size_toArray, tyF, MM, bu0, h1]
    simp at h1
    simp [szR]; omega
theorem toInt64S (l : List Int) (hl : l.length ≤ 1099511627776) : SpecAt Try.prog 210 [isl l] (itr l) := by
  refine spec_of_awp (M := MM) (np := 1) (fz := false) mixed Try.func210 rfl rfl (by decide) rfl (Nat.le_refl _) (by decide +kernel) (.inl rfl) (by first | trivial | simp only [sigsOk_nil, sigsOk_some, sigsOk_none, sig_tr, sig_pt, sig_mt, sig_agg, List.map_cons, List.map_nil, sig1_tr, sig1_pt, sig1_v, and_self, true_and, List.length_map, List.length_set]) ?_
  simp -dsimp -implicitDefEqProofs (disch := first | omega | (simp only [lenr]; done) | (simp only [lenr]; omega)) only [↓amPre, amAll, ↓reduceIte, reduceCtorEq, Nat.reduceEqDiff, Nat.reduceBEq, Nat.reduceAdd, Nat.reduceLeDiff, Nat.reduceSub, Nat.reduceMul, Int.reduceToNat, List.size_toArray, tyF, MM, bu0]
  refine awp_loop (fun j st => j ≤ l.length ∧ st.fr 4 = .i64 j ∧ st.fr 0 = isl l ∧ st.fr 3 = .ref 7 [] 1 0 l.length ∧ st.mem 7 = some (itr (mixL l (List.replicate l.length 0) j))) (l.length) ?_ ?_
  · simp -dsimp -implicitDefEqProofs (disch := first | omega | (simp only [lenr]; done) | (simp only [lenr]; omega)) only [↓amPre, amAll, ↓reduceIte, reduceCtorEq, Nat.reduceEqDiff, Nat.reduceBEq, Nat.reduceAdd, Nat.reduceLeDiff, Nat.reduceSub, Nat.reduceMul, Int.reduceToNat, List.size_toArray, tyF, MM, bu0, mixL_zero]
    simp
  rintro j st _ ⟨hj, f4, f0, f3, m7⟩
  have hr : l.length = (List.replicate l.length (0:Int)).length := by simp
  have hm := mixL_len l (List.replicate l.length 0) j hr
  by_cases hlt : j < l.length
  · have hs := mixL_set l (List.replicate l.length 0) j 0 hr (by omega)
    simp -dsimp -implicitDefEqProofs (disch := first | omega | (simp only [lenr]; done) | (simp only [lenr]; omega)) only [↓amPre, amAll, ↓reduceIte, reduceCtorEq, Nat.reduceEqDiff, Nat.reduceBEq, Nat.reduceAdd, Nat.reduceLeDiff, Nat.reduceSub, Nat.reduceMul, Int.reduceToNat, List.size_toArray, tyF, MM, bu0, f4, f0, f3, m7, hm, hs]
    repeat' (first | omega | rfl | exact i64c (by omega) | exact vic (by omega) | apply And.intro)
  · have hj' : j = l.length := by omega
    subst hj'
    have := mixL_all l (List.replicate l.length 0) l.length (by omega) (by simp)
    simp -dsimp -implicitDefEqProofs (disch := first | omega | (simp only [lenr]; done) | (simp only [lenr]; omega)) only [↓amPre, amAll, ↓reduceIte, reduceCtorEq, Nat.reduceEqDiff, Nat.reduceBEq, Nat.reduceAdd, Nat.reduceLeDiff, Nat.reduceSub, Nat.reduceMul, Int.reduceToNat, List.size_toArray, tyF, MM, bu0, f4, f0, f3, m7, hm, this]
theorem eqInt64S (a b : List Int) (ha : a.length ≤ 1099511627776) : SpecAt Try.prog 55 [isl a, isl b] (.bl (decide (a = b))) := by
  refine spec_of_awp (M := MM) (np := 2) (fz := true) mixed Try.func55 rfl rfl (by decide) rfl (Nat.le_refl _) (by decide +kernel) (.inr ⟨rfl, rfl⟩) trivial ?_
  simp -dsimp -implicitDefEqProofs (disch := first | omega | (simp only [lenr]; done) | (simp only [lenr]; omega)) only [↓amPre, amAll, ↓reduceIte, reduceCtorEq, Nat.reduceEqDiff, Nat.reduceBEq, Nat.reduceAdd, Nat.reduceLeDiff, Nat.reduceSub, Nat.reduceMul, Int.reduceToNat, List.size_toArray, tyF, MM, bu0]
  refine ifP_mk ?_ ?_ <;> intro h1
  · simp -dsimp -implicitDefEqProofs (disch := first | omega | (simp only [lenr]; done) | (simp only [lenr]; omega)) only [↓amPre, amAll, ↓reduceIte, reduceCtorEq, Nat.reduceEqDiff, Nat.reduceBEq, Nat.reduceAdd, Nat.reduceLeDiff, Nat.reduceSub, Nat.reduceMul, Int.reduceToNat, List.size_toArray, tyF, MM, bu0, h1]
    have : ¬ a = b := by intro e; subst e; simp at h1
    simp [this]
  simp -dsimp -implicitDefEqProofs (disch := first | omega | (simp only [lenr]; done) | (simp only [lenr]; omega)) only [↓amPre, amAll, ↓reduceIte, reduceCtorEq, Nat.reduceEqDiff, Nat.reduceBEq, Nat.reduceAdd, Nat.reduceLeDiff, Nat.reduceSub, Nat.reduceMul, Int.reduceToNat, List.size_toArray, tyF, MM, bu0, h1]
  have hab : a.length = b.length := by simp at h1; omega
  refine awp_loop (fun k st => k ≤ a.length ∧ st.fr 5 = .i64 k ∧ st.fr 0 = isl a ∧ st.fr 1 = isl b ∧ a.take k = b.take k) (a.length) ?_ ?_
  · simp -dsimp -implicitDefEqProofs (disch := first | omega | (simp only [lenr]; done) | (simp only [lenr]; omega)) only [↓amPre, amAll, ↓reduceIte, reduceCtorEq, Nat.reduceEqDiff, Nat.reduceBEq, Nat.reduceAdd, Nat.reduceLeDiff, Nat.reduceSub, Nat.reduceMul, Int.reduceToNat, List.size_toArray, tyF, MM, bu0]
    repeat' (first | omega | rfl | exact i64c (by omega) | exact vic (by omega) | apply And.intro)
  rintro k st _ ⟨hk, f5, f0, f1, ek⟩
  by_cases hlt : k < a.length
  · simp -dsimp -implicitDefEqProofs (disch := first | omega | (simp only [lenr]; done) | (simp only [lenr]; omega)) only [↓amPre, amAll, ↓reduceIte, reduceCtorEq, Nat.reduceEqDiff, Nat.reduceBEq, Nat.reduceAdd, Nat.reduceLeDiff, Nat.reduceSub, Nat.reduceMul, Int.reduceToNat, List.size_toArray, tyF, MM, bu0, f5, f0, f1]
    refine ifP_mk ?_ ?_ <;> intro w1
    · simp -dsimp -implicitDefEqProofs (disch := first | omega | (simp only [lenr]; done) | (simp only [lenr]; omega)) only [↓amPre, amAll, ↓reduceIte, reduceCtorEq, Nat.reduceEqDiff, Nat.reduceBEq, Nat.reduceAdd, Nat.reduceLeDiff, Nat.reduceSub, Nat.reduceMul, Int.reduceToNat, List.size_toArray, tyF, MM, bu0, f5, f0, f1, w1]
      have hne : ¬ a = b := by
        intro e; subst e; simp at w1
      simp [hne]
    · simp -dsimp -implicitDefEqProofs (disch := first | omega | (simp only [lenr]; done) | (simp only [lenr]; omega)) only [↓amPre, amAll, ↓reduceIte, reduceCtorEq, Nat.reduceEqDiff, Nat.reduceBEq, Nat.reduceAdd, Nat.reduceLeDiff, Nat.reduceSub, Nat.reduceMul, Int.reduceToNat, List.size_toArray, tyF, MM, bu0, f5, f0, f1, w1]
      simp only [bne_eq_false_iff_eq] at w1
      repeat' (first | omega | rfl | exact i64c (by omega) | exact vic (by omega) | exact (take_eq_iff 0 k hlt (by omega)).2 ⟨ek, w1⟩ | apply And.intro)
  · have hke : k = a.length := by omega
    subst hke
    simp -dsimp -implicitDefEqProofs (disch := first | omega | (simp only [lenr]; done) | (simp only [lenr]; omega)) only [↓amPre, amAll, ↓reduceIte, reduceCtorEq, Nat.reduceEqDiff, Nat.reduceBEq, Nat.reduceAdd, Nat.reduceLeDiff, Nat.reduceSub, Nat.reduceMul, Int.reduceToNat, List.size_toArray, tyF, MM, bu0, f5, f0, f1]
    simp [eq_of_takes hab ek]
theorem markInt64S (l : List Int) (k : Int) (h0 : 0 ≤ k) (h1 : k ≤ 1099511627776) (hl : l.length ≤ 1099511627776) : SpecX Try.prog 56 [itr l, .i64 k] [some (itr (runI k l.length))] (.i64 (k + l.length)) := by
  refine spec_of_awp (M := MM) (np := 2) (fz := false) mixed Try.func56 rfl rfl (by decide) rfl (Nat.le_refl _) (by decide +kernel) (.inl rfl) (by simp only [sigsOk_some, sigsOk_nil, sig_tr, List.length_map, runI_len, and_self]) ?_
  simp -dsimp -implicitDefEqProofs (disch := first | omega | (simp only [lenr]; done) | (simp only [lenr]; omega)) only [↓amPre, amAll, ↓reduceIte, reduceCtorEq, Nat.reduceEqDiff, Nat.reduceBEq, Nat.reduceAdd, Nat.reduceLeDiff, Nat.reduceSub, Nat.reduceMul, Int.reduceToNat, List.size_toArray, tyF, MM, bu0]
  have hr := runI_len k l.length
  refine awp_loop (fun j st => j ≤ l.length ∧ st.fr 5 = .i64 j ∧ st.fr 1 = .i64 (k + j) ∧ st.fr 0 = .ref 0 [] 1 0 l.length ∧ st.mem 0 = some (itr (mixL (runI k l.length) l j))) (l.length) ?_ ?_
  · simp -dsimp -implicitDefEqProofs (disch := first | omega | (simp only [lenr]; done) | (simp only [lenr]; omega)) only [↓amPre, amAll, ↓reduceIte, reduceCtorEq, Nat.reduceEqDiff, Nat.reduceBEq, Nat.reduceAdd, Nat.reduceLeDiff, Nat.reduceSub, Nat.reduceMul, Int.reduceToNat, List.size_toArray, tyF, MM, bu0, mixL_zero]
    simp
  rintro j st _ ⟨hj, f5, f1, f0, m0⟩
  have hml := mixL_len (runI k l.length) l j hr
  by_cases hlt : j < l.length
  · have hs := mixL_set (runI k l.length) l j 0 hr hlt
    rw [runI_get _ _ _ hlt] at hs
    simp -dsimp -implicitDefEqProofs (disch := first | omega | (simp only [lenr]; done) | (simp only [lenr]; omega)) only [↓amPre, amAll, ↓reduceIte, reduceCtorEq, Nat.reduceEqDiff, Nat.reduceBEq, Nat.reduceAdd, Nat.reduceLeDiff, Nat.reduceSub, Nat.reduceMul, Int.reduceToNat, List.size_toArray, tyF, MM, bu0, f5, f1, f0, m0, hml, hs]
    refine ⟨hlt, hlt, ?_⟩
    simp; omega
  · have hj' : j = l.length := by omega
    subst hj'
    have := mixL_all (runI k l.length) l l.length (by omega) (by omega)
    simp -dsimp -implicitDefEqProofs (disch := first | omega | (simp only [lenr]; done) | (simp only [lenr]; omega)) only [↓amPre, amAll, ↓reduceIte, reduceCtorEq, Nat.reduceEqDiff, Nat.reduceBEq, Nat.reduceAdd, Nat.reduceLeDiff, Nat.reduceSub, Nat.reduceMul, Int.reduceToNat, List.size_toArray, tyF, MM, bu0, f5, f1, f0, m0, hml, this]
theorem heldInt64S (k : Int) (n : Nat) (h0 : 0 ≤ k) (h1 : k ≤ 1099511627776) (hl : n ≤ 1099511627776) : SpecAt Try.prog 57 [isl (runI k n), .i64 k] (.i64 (k + n)) := by
  refine spec_of_awp (M := MM) (np := 2) (fz := true) mixed Try.func57 rfl rfl (by decide) rfl (Nat.le_refl _) (by decide +kernel) (.inr ⟨rfl, rfl⟩) trivial ?_
  simp -dsimp -implicitDefEqProofs (disch := first | omega | (simp only [lenr]; done) | (simp only [lenr]; omega)) only [↓amPre, amAll, ↓reduceIte, reduceCtorEq, Nat.reduceEqDiff, Nat.reduceBEq, Nat.reduceAdd, Nat.reduceLeDiff, Nat.reduceSub, Nat.reduceMul, Int.reduceToNat, List.size_toArray, tyF, MM, bu0]
  have hr := runI_len k n
  refine awp_loop (fun j st => j ≤ n ∧ st.fr 5 = .i64 j ∧ st.fr 1 = .i64 (k + j) ∧ st.fr 0 = isl (runI k n)) (n) ?_ ?_
  · simp -dsimp -implicitDefEqProofs (disch := first | omega | (simp only [lenr]; done) | (simp only [lenr]; omega)) only [↓amPre, amAll, ↓reduceIte, reduceCtorEq, Nat.reduceEqDiff, Nat.reduceBEq, Nat.reduceAdd, Nat.reduceLeDiff, Nat.reduceSub, Nat.reduceMul, Int.reduceToNat, List.size_toArray, tyF, MM, bu0]
    simp
  rintro j st _ ⟨hj, f5, f1, f0⟩
  by_cases hlt : j < n
  · simp -dsimp -implicitDefEqProofs (disch := first | omega | (simp only [lenr]; done) | (simp only [lenr]; omega)) only [↓amPre, amAll, ↓reduceIte, reduceCtorEq, Nat.reduceEqDiff, Nat.reduceBEq, Nat.reduceAdd, Nat.reduceLeDiff, Nat.reduceSub, Nat.reduceMul, Int.reduceToNat, List.size_toArray, tyF, MM, bu0, f5, f1, f0, hr, runI_get]
    simp
    refine ⟨hlt, hlt, ?_⟩
    omega
  · have hj' : j = n := by omega
    subst hj'
    simp -dsimp -implicitDefEqProofs (disch := first | omega | (simp only [lenr]; done) | (simp only [lenr]; omega)) only [↓amPre, amAll, ↓reduceIte, reduceCtorEq, Nat.reduceEqDiff, Nat.reduceBEq, Nat.reduceAdd, Nat.reduceLeDiff, Nat.reduceSub, Nat.reduceMul, Int.reduceToNat, List.size_toArray, tyF, MM, bu0, f5, f1, f0, hr]
end Go.AM
set_option maxRecDepth 8000
namespace Go.AM
open Go.Proofs
theorem szKindS (l : List Kind) (k : Int) (hk : intOk k) (h0 : 0 ≤ k) (hl : l.length ≤ 9223372036854775807) : SpecAt Try.prog 105 [ksl l, .i64 k] (.i64 (szR k l.length)) := by
  unfold intOk at hk
  refine spec_of_awp (M := MM) (np := 2) (fz := true) mixed Try.func105 rfl rfl (by decide) rfl (Nat.le_refl _) (by decide +kernel) (.inr ⟨rfl, rfl⟩) trivial ?_
  simp -dsimp -implicitDefEqProofs (disch := first | omega | (simp only [lenr]; done) | (simp only [lenr]; omega)) only [↓amPre, amAll, ↓reduceIte, reduceCtorEq, Nat.reduceEqDiff, Nat.reduceBEq, Nat.reduceAdd, Nat.reduceLeDiff, Nat.reduceSub, Nat.reduceMul, Int.reduceToNat, List.size_toArray, tyF, MM, bu0, ipure, kpure, tpure, sspure, kset, tset, ksnoc, tsnoc, Kind.av, Twist.sl, Twist.tr, Invar.av]
  refine ifP_mk ?_ ?_ <;> intro h1
  · simp -dsimp -implicitDefEqProofs (disch := first | omega | (simp only [lenr]; done) | (simp only [lenr]; omega)) only [↓amPre, amAll, ↓reduceIte, reduceCtorEq, Nat.reduceEqDiff, Nat.reduceBEq, Nat.reduceAdd, Nat.reduceLeDiff, Nat.reduceSub, Nat.reduceMul, Int.reduceToNat, List.size_toArray, tyF, MM, bu0, ipure, kpure, tpure, sspure, kset, tset, ksnoc, tsnoc, Kind.av, Twist.sl, Twist.tr, Invar.av, h1]
    simp at h1
    simp [szR, h1]
  · simp -dsimp -implicitDefEqProofs (disch := first | omega | (simp only [lenr]; done) | (simp only [lenr]; omega)) only [↓amPre, amAll, ↓reduceIte, reduceCtorEq, Nat.reduceEqDiff, Nat.reduceBEq, Nat.reduceAdd, Nat.reduceLeDiff, Nat.reduceSub, Nat.reduceMul, Int.reduceToNat, List.size_toArray, tyF, MM, bu0, ipure, kpure, tpure, sspure, kset, tset, ksnoc, tsnoc, Kind.av, Twist.sl, Twist.tr, Invar.av, h1]
    simp at h1
    simp [szR]; omega
theorem toKind (k : Kind) : SpecAt Try.prog 190 [k.av] k.av := by
  refine spec_of_awp (M := MM) (np := 1) (fz := true) mixed Try.func190 rfl rfl (by decide) rfl (Nat.le_refl _) (by decide +kernel) (.inr ⟨rfl, rfl⟩) trivial ?_
  simp -dsimp -implicitDefEqProofs (disch := first | omega | (simp only [lenr]; done) | (simp only [lenr]; omega)) only [↓amPre, amAll, ↓reduceIte, reduceCtorEq, Nat.reduceEqDiff, Nat.reduceBEq, Nat.reduceAdd, Nat.reduceLeDiff, Nat.reduceSub, Nat.reduceMul, Int.reduceToNat, List.size_toArray, tyF, MM, bu0, ipure, kpure, tpure, sspure, kset, tset, ksnoc, tsnoc, Kind.av, Twist.sl, Twist.tr, Invar.av, Kind.av]
theorem toKindS (l : List Kind) (hl : l.length ≤ 1099511627776) : SpecAt Try.prog 109 [ksl l] (ktr l) := by
  refine spec_of_awp (M := MM) (np := 1) (fz := false) mixed Try.func109 rfl rfl (by decide) rfl (Nat.le_refl _) (by decide +kernel) (.inl rfl) (by first | trivial | simp only [sigsOk_nil, sigsOk_some, sigsOk_none, sig_tr, sig_pt, sig_mt, sig_agg, List.map_cons, List.map_nil, sig1_tr, sig1_pt, sig1_v, and_self, true_and, List.length_map, List.length_set]) ?_
  simp -dsimp -implicitDefEqProofs (disch := first | omega | (simp only [lenr]; done) | (simp only [lenr]; omega)) only [↓amPre, amAll, ↓reduceIte, reduceCtorEq, Nat.reduceEqDiff, Nat.reduceBEq, Nat.reduceAdd, Nat.reduceLeDiff, Nat.reduceSub, Nat.reduceMul, Int.reduceToNat, List.size_toArray, tyF, MM, bu0, ipure, kpure, tpure, sspure, kset, tset, ksnoc, tsnoc, Kind.av, Twist.sl, Twist.tr, Invar.av]
  refine awp_loop (fun j st => j ≤ l.length ∧ st.fr 4 = .i64 j ∧ st.fr 0 = ksl l ∧ st.fr 3 = .ref 7 [] 2 0 l.length ∧ st.mem 7 = some (ktr (mixL l (List.replicate l.length ⟨0, 0⟩) j))) (l.length) ?_ ?_
  · simp -dsimp -implicitDefEqProofs (disch := first | omega | (simp only [lenr]; done) | (simp only [lenr]; omega)) only [↓amPre, amAll, ↓reduceIte, reduceCtorEq, Nat.reduceEqDiff, Nat.reduceBEq, Nat.reduceAdd, Nat.reduceLeDiff, Nat.reduceSub, Nat.reduceMul, Int.reduceToNat, List.size_toArray, tyF, MM, bu0, ipure, kpure, tpure, sspure, kset, tset, ksnoc, tsnoc, Kind.av, Twist.sl, Twist.tr, Invar.av, mixL_zero]
    simp [Kind.av]
  rintro j st _ ⟨hj, f4, f0, f3, m7⟩
  have hr : l.length = (List.replicate l.length (⟨0, 0⟩ : Kind)).length := by simp
  have hm := mixL_len l (List.replicate l.length ⟨0, 0⟩) j hr
  by_cases hlt : j < l.length
  · have hs := mixL_set l (List.replicate l.length ⟨0, 0⟩) j default hr (by omega)
    simp -dsimp -implicitDefEqProofs (disch := first | omega | (simp only [lenr]; done) | (simp only [lenr]; omega)) only [↓amPre, amAll, ↓reduceIte, reduceCtorEq, Nat.reduceEqDiff, Nat.reduceBEq, Nat.reduceAdd, Nat.reduceLeDiff, Nat.reduceSub, Nat.reduceMul, Int.reduceToNat, List.size_toArray, tyF, MM, bu0, ipure, kpure, tpure, sspure, kset, tset, ksnoc, tsnoc, Kind.av, Twist.sl, Twist.tr, Invar.av, f4, f0, f3, m7, hm]
    refine callP_of (toKind _) ?_
    simp -dsimp -implicitDefEqProofs (disch := first | omega | (simp only [lenr]; done) | (simp only [lenr]; omega)) only [↓amPre, amAll, ↓reduceIte, reduceCtorEq, Nat.reduceEqDiff, Nat.reduceBEq, Nat.reduceAdd, Nat.reduceLeDiff, Nat.reduceSub, Nat.reduceMul, Int.reduceToNat, List.size_toArray, tyF, MM, bu0, ipure, kpure, tpure, sspure, kset, tset, ksnoc, tsnoc, Kind.av, Twist.sl, Twist.tr, Invar.av, f4, f0, f3, m7, hm, hs, Kind.av, kset]
    repeat' (first | omega | rfl | exact i64c (by omega) | exact vic (by omega) | apply And.intro)
  · have hj' : j = l.length := by omega
    subst hj'
    have := mixL_all l (List.replicate l.length ⟨0, 0⟩) l.length (by omega) (by simp)
    simp -dsimp -implicitDefEqProofs (disch := first | omega | (simp only [lenr]; done) | (simp only [lenr]; omega)) only [↓amPre, amAll, ↓reduceIte, reduceCtorEq, Nat.reduceEqDiff, Nat.reduceBEq, Nat.reduceAdd, Nat.reduceLeDiff, Nat.reduceSub, Nat.reduceMul, Int.reduceToNat, List.size_toArray, tyF, MM, bu0, ipure, kpure, tpure, sspure, kset, tset, ksnoc, tsnoc, Kind.av, Twist.sl, Twist.tr, Invar.av, f4, f0, f3, m7, hm, this]
theorem eqKind (a b : Kind) : SpecAt Try.prog 192 [a.av, b.av] (.bl (decide (a = b))) := by
  refine spec_of_awp (M := MM) (np := 2) (fz := true) mixed Try.func192 rfl rfl (by decide) rfl (Nat.le_refl _) (by decide +kernel) (.inr ⟨rfl, rfl⟩) trivial ?_
  simp -dsimp -implicitDefEqProofs (disch := first | omega | (simp only [lenr]; done) | (simp only [lenr]; omega)) only [↓amPre, amAll, ↓reduceIte, reduceCtorEq, Nat.reduceEqDiff, Nat.reduceBEq, Nat.reduceAdd, Nat.reduceLeDiff, Nat.reduceSub, Nat.reduceMul, Int.reduceToNat, List.size_toArray, tyF, MM, bu0, ipure, kpure, tpure, sspure, kset, tset, ksnoc, tsnoc, Kind.av, Twist.sl, Twist.tr, Invar.av, Kind.av]
  obtain ⟨a1, a2⟩ := a
  obtain ⟨b1, b2⟩ := b
  refine ifP_mk ?_ ?_ <;> intro h1
  · simp -dsimp -implicitDefEqProofs (disch := first | omega | (simp only [lenr]; done) | (simp only [lenr]; omega)) only [↓amPre, amAll, ↓reduceIte, reduceCtorEq, Nat.reduceEqDiff, Nat.reduceBEq, Nat.reduceAdd, Nat.reduceLeDiff, Nat.reduceSub, Nat.reduceMul, Int.reduceToNat, List.size_toArray, tyF, MM, bu0, ipure, kpure, tpure, sspure, kset, tset, ksnoc, tsnoc, Kind.av, Twist.sl, Twist.tr, Invar.av, h1, Kind.av]
    simp at h1; simp [h1]
  · simp -dsimp -implicitDefEqProofs (disch := first | omega | (simp only [lenr]; done) | (simp only [lenr]; omega)) only [↓amPre, amAll, ↓reduceIte, reduceCtorEq, Nat.reduceEqDiff, Nat.reduceBEq, Nat.reduceAdd, Nat.reduceLeDiff, Nat.reduceSub, Nat.reduceMul, Int.reduceToNat, List.size_toArray, tyF, MM, bu0, ipure, kpure, tpure, sspure, kset, tset, ksnoc, tsnoc, Kind.av, Twist.sl, Twist.tr, Invar.av, h1, Kind.av]
    refine ifP_mk ?_ ?_ <;> intro h2
    · simp -dsimp -implicitDefEqProofs (disch := first | omega | (simp only [lenr]; done) | (simp only [lenr]; omega)) only [↓amPre, amAll, ↓reduceIte, reduceCtorEq, Nat.reduceEqDiff, Nat.reduceBEq, Nat.reduceAdd, Nat.reduceLeDiff, Nat.reduceSub, Nat.reduceMul, Int.reduceToNat, List.size_toArray, tyF, MM, bu0, ipure, kpure, tpure, sspure, kset, tset, ksnoc, tsnoc, Kind.av, Twist.sl, Twist.tr, Invar.av, h2, Kind.av]
      simp at h2; simp [h2]
    · simp -dsimp -implicitDefEqProofs (disch := first | omega | (simp only [lenr]; done) | (simp only [lenr]; omega)) only [↓amPre, amAll, ↓reduceIte, reduceCtorEq, Nat.reduceEqDiff, Nat.reduceBEq, Nat.reduceAdd, Nat.reduceLeDiff, Nat.reduceSub, Nat.reduceMul, Int.reduceToNat, List.size_toArray, tyF, MM, bu0, ipure, kpure, tpure, sspure, kset, tset, ksnoc, tsnoc, Kind.av, Twist.sl, Twist.tr, Invar.av, h2, Kind.av]
      simp at h1 h2; simp [h1, h2]
theorem eqKindS (a b : List Kind) (ha : a.length ≤ 1099511627776) : SpecAt Try.prog 112 [ksl a, ksl b] (.bl (decide (a = b))) := by
  refine spec_of_awp (M := MM) (np := 2) (fz := true) mixed Try.func112 rfl rfl (by decide) rfl (Nat.le_refl _) (by decide +kernel) (.inr ⟨rfl, rfl⟩) trivial ?_
  simp -dsimp -implicitDefEqProofs (disch := first | omega | (simp only [lenr]; done) | (simp only [lenr]; omega)) only [↓amPre, amAll, ↓reduceIte, reduceCtorEq, Nat.reduceEqDiff, Nat.reduceBEq, Nat.reduceAdd, Nat.reduceLeDiff, Nat.reduceSub, Nat.reduceMul, Int.reduceToNat, List.size_toArray, tyF, MM, bu0, ipure, kpure, tpure, sspure, kset, tset, ksnoc, tsnoc, Kind.av, Twist.sl, Twist.tr, Invar.av]
  refine ifP_mk ?_ ?_ <;> intro h1
  · simp -dsimp -implicitDefEqProofs (disch := first | omega | (simp only [lenr]; done) | (simp only [lenr]; omega)) only [↓amPre, amAll, ↓reduceIte, reduceCtorEq, Nat.reduceEqDiff, Nat.reduceBEq, Nat.reduceAdd, Nat.reduceLeDiff, Nat.reduceSub, Nat.reduceMul, Int.reduceToNat, List.size_toArray, tyF, MM, bu0, ipure, kpure, tpure, sspure, kset, tset, ksnoc, tsnoc, Kind.av, Twist.sl, Twist.tr, Invar.av, h1]
    have : ¬ a = b := by intro e; subst e; simp at h1
    simp [this]
  simp -dsimp -implicitDefEqProofs (disch := first | omega | (simp only [lenr]; done) | (simp only [lenr]; omega)) only [↓amPre, amAll, ↓reduceIte, reduceCtorEq, Nat.reduceEqDiff, Nat.reduceBEq, Nat.reduceAdd, Nat.reduceLeDiff, Nat.reduceSub, Nat.reduceMul, Int.reduceToNat, List.size_toArray, tyF, MM, bu0, ipure, kpure, tpure, sspure, kset, tset, ksnoc, tsnoc, Kind.av, Twist.sl, Twist.tr, Invar.av, h1]
  have hab : a.length = b.length := by simp at h1; omega
  refine awp_loop (fun k st => k ≤ a.length ∧ st.fr 5 = .i64 k ∧ st.fr 0 = ksl a ∧ st.fr 1 = ksl b ∧ a.take k = b.take k) (a.length) ?_ ?_
  · simp -dsimp -implicitDefEqProofs (disch := first | omega | (simp only [lenr]; done) | (simp only [lenr]; omega)) only [↓amPre, amAll, ↓reduceIte, reduceCtorEq, Nat.reduceEqDiff, Nat.reduceBEq, Nat.reduceAdd, Nat.reduceLeDiff, Nat.reduceSub, Nat.reduceMul, Int.reduceToNat, List.size_toArray, tyF, MM, bu0, ipure, kpure, tpure, sspure, kset, tset, ksnoc, tsnoc, Kind.av, Twist.sl, Twist.tr, Invar.av]
    repeat' (first | omega | rfl | exact i64c (by omega) | exact vic (by omega) | apply And.intro)
  rintro k st _ ⟨hk, f5, f0, f1, ek⟩
  by_cases hlt : k < a.length
  · simp -dsimp -implicitDefEqProofs (disch := first | omega | (simp only [lenr]; done) | (simp only [lenr]; omega)) only [↓amPre, amAll, ↓reduceIte, reduceCtorEq, Nat.reduceEqDiff, Nat.reduceBEq, Nat.reduceAdd, Nat.reduceLeDiff, Nat.reduceSub, Nat.reduceMul, Int.reduceToNat, List.size_toArray, tyF, MM, bu0, ipure, kpure, tpure, sspure, kset, tset, ksnoc, tsnoc, Kind.av, Twist.sl, Twist.tr, Invar.av, f5, f0, f1]
    refine callP_of (eqKind _ _) ?_
    cases w1 : decide (a.getD k default = b.getD k default) with
    | false =>
      simp -dsimp -implicitDefEqProofs (disch := first | omega | (simp only [lenr]; done) | (simp only [lenr]; omega)) only [↓amPre, amAll, ↓reduceIte, reduceCtorEq, Nat.reduceEqDiff, Nat.reduceBEq, Nat.reduceAdd, Nat.reduceLeDiff, Nat.reduceSub, Nat.reduceMul, Int.reduceToNat, List.size_toArray, tyF, MM, bu0, ipure, kpure, tpure, sspure, kset, tset, ksnoc, tsnoc, Kind.av, Twist.sl, Twist.tr, Invar.av, f5, f0, f1, w1]
      simp only [decide_eq_false_iff_not] at w1
      have hne : ¬ a = b := by
        intro e; subst e; exact w1 rfl
      simp [hne]
    | true =>
      simp -dsimp -implicitDefEqProofs (disch := first | omega | (simp only [lenr]; done) | (simp only [lenr]; omega)) only [↓amPre, amAll, ↓reduceIte, reduceCtorEq, Nat.reduceEqDiff, Nat.reduceBEq, Nat.reduceAdd, Nat.reduceLeDiff, Nat.reduceSub, Nat.reduceMul, Int.reduceToNat, List.size_toArray, tyF, MM, bu0, ipure, kpure, tpure, sspure, kset, tset, ksnoc, tsnoc, Kind.av, Twist.sl, Twist.tr, Invar.av, f5, f0, f1, w1]
      simp only [decide_eq_true_eq] at w1
      repeat' (first | omega | rfl | exact i64c (by omega) | exact vic (by omega) | exact (take_eq_iff default k hlt (by omega)).2 ⟨ek, w1⟩ | apply And.intro)
  · have hke : k = a.length := by omega
    subst hke
    simp -dsimp -implicitDefEqProofs (disch := first | omega | (simp only [lenr]; done) | (simp only [lenr]; omega)) only [↓amPre, amAll, ↓reduceIte, reduceCtorEq, Nat.reduceEqDiff, Nat.reduceBEq, Nat.reduceAdd, Nat.reduceLeDiff, Nat.reduceSub, Nat.reduceMul, Int.reduceToNat, List.size_toArray, tyF, MM, bu0, ipure, kpure, tpure, sspure, kset, tset, ksnoc, tsnoc, Kind.av, Twist.sl, Twist.tr, Invar.av, f5, f0, f1]
    simp [eq_of_takes hab ek]
end Go.AM
set_option maxRecDepth 8000
namespace Go.AM
open Go.Proofs
theorem kcnts : ∀ l : List Kind, cnts l = 2 * l.length
  | [] => rfl
  | a :: r => by rw [cnts, kcnts r]; simp [Mk.cnt]; omega
theorem kmks_get (k : Int) (l : List Kind) (i : Nat) (h : i < l.length) : (mks k l).getD i default = ⟨k + 2 * i, k + 2 * i + 1⟩ := by
  rw [mks_get k l i h]; simp [Mk.mrk, kcnts]; omega
theorem markKindS (l : List Kind) (k : Int) (h0 : 0 ≤ k) (h1 : k ≤ 1099511627776) (hl : l.length ≤ 1099511627776) : SpecX Try.prog 114 [ktr l, .i64 k] [some (ktr (mks k l))] (.i64 (k + 2 * l.length)) := by
  refine spec_of_awp (M := MM) (np := 2) (fz := false) mixed Try.func114 rfl rfl (by decide) rfl (Nat.le_refl _) (by decide +kernel) (.inl rfl) (by simp only [sigsOk_some, sigsOk_nil, sig_tr, List.length_map, mks_len, and_self]) ?_
  simp -dsimp -implicitDefEqProofs (disch := first | omega | (simp only [lenr]; done) | (simp only [lenr]; omega)) only [↓amPre, amAll, ↓reduceIte, reduceCtorEq, Nat.reduceEqDiff, Nat.reduceBEq, Nat.reduceAdd, Nat.reduceLeDiff, Nat.reduceSub, Nat.reduceMul, Int.reduceToNat, List.size_toArray, tyF, MM, bu0, ipure, kpure, tpure, sspure, kset, tset, ksnoc, tsnoc, Kind.av, Twist.sl, Twist.tr, Invar.av]
  have hr := mks_len k l
  refine awp_loop (fun j st => j ≤ l.length ∧ st.fr 5 = .i64 j ∧ st.fr 1 = .i64 (k + 2 * j) ∧ st.fr 0 = .ref 0 [] 2 0 l.length ∧ st.mem 0 = some (ktr (mixL (mks k l) l j))) (l.length) ?_ ?_
  · simp -dsimp -implicitDefEqProofs (disch := first | omega | (simp only [lenr]; done) | (simp only [lenr]; omega)) only [↓amPre, amAll, ↓reduceIte, reduceCtorEq, Nat.reduceEqDiff, Nat.reduceBEq, Nat.reduceAdd, Nat.reduceLeDiff, Nat.reduceSub, Nat.reduceMul, Int.reduceToNat, List.size_toArray, tyF, MM, bu0, ipure, kpure, tpure, sspure, kset, tset, ksnoc, tsnoc, Kind.av, Twist.sl, Twist.tr, Invar.av, mixL_zero]
    simp
  rintro j st _ ⟨hj, f5, f1, f0, m0⟩
  have hml := mixL_len (mks k l) l j hr
  by_cases hlt : j < l.length
  · have hs := mixL_set (mks k l) l j default hr hlt
    rw [kmks_get _ _ _ hlt] at hs
    simp -dsimp -implicitDefEqProofs (disch := first | omega | (simp only [lenr]; done) | (simp only [lenr]; omega)) only [↓amPre, amAll, ↓reduceIte, reduceCtorEq, Nat.reduceEqDiff, Nat.reduceBEq, Nat.reduceAdd, Nat.reduceLeDiff, Nat.reduceSub, Nat.reduceMul, Int.reduceToNat, List.size_toArray, tyF, MM, bu0, ipure, kpure, tpure, sspure, kset, tset, ksnoc, tsnoc, Kind.av, Twist.sl, Twist.tr, Invar.av, f5, f1, f0, m0, hml, hs, Kind.av]
    repeat' (first | omega | rfl | exact i64c (by omega) | exact vic (by omega) | apply And.intro)
  · have hj' : j = l.length := by omega
    subst hj'
    have := mixL_all (mks k l) l l.length (by omega) (by omega)
    simp -dsimp -implicitDefEqProofs (disch := first | omega | (simp only [lenr]; done) | (simp only [lenr]; omega)) only [↓amPre, amAll, ↓reduceIte, reduceCtorEq, Nat.reduceEqDiff, Nat.reduceBEq, Nat.reduceAdd, Nat.reduceLeDiff, Nat.reduceSub, Nat.reduceMul, Int.reduceToNat, List.size_toArray, tyF, MM, bu0, ipure, kpure, tpure, sspure, kset, tset, ksnoc, tsnoc, Kind.av, Twist.sl, Twist.tr, Invar.av, f5, f1, f0, m0, hml, this]
theorem toTwist (t : Twist) (h1 : t.to.length ≤ 1099511627776) (h2 : t.by'.length ≤ 1099511627776) : SpecAt Try.prog 233 [t.sl] t.tr := by
  refine spec_of_awp (M := MM) (np := 1) (fz := false) mixed Try.func233 rfl rfl (by decide) rfl (Nat.le_refl _) (by decide +kernel) (.inl rfl) (by first | trivial | simp only [sigsOk_nil, sigsOk_some, sigsOk_none, sig_tr, sig_pt, sig_mt, sig_agg, List.map_cons, List.map_nil, sig1_tr, sig1_pt, sig1_v, and_self, true_and, List.length_map, List.length_set]) ?_
  simp -dsimp -implicitDefEqProofs (disch := first | omega | (simp only [lenr]; done) | (simp only [lenr]; omega)) only [↓amPre, amAll, ↓reduceIte, reduceCtorEq, Nat.reduceEqDiff, Nat.reduceBEq, Nat.reduceAdd, Nat.reduceLeDiff, Nat.reduceSub, Nat.reduceMul, Int.reduceToNat, List.size_toArray, tyF, MM, bu0, ipure, kpure, tpure, sspure, kset, tset, ksnoc, tsnoc, Kind.av, Twist.sl, Twist.tr, Invar.av]
  refine callP_of (toInt64S _ h1) ?_
  simp -dsimp -implicitDefEqProofs (disch := first | omega | (simp only [lenr]; done) | (simp only [lenr]; omega)) only [↓amPre, amAll, ↓reduceIte, reduceCtorEq, Nat.reduceEqDiff, Nat.reduceBEq, Nat.reduceAdd, Nat.reduceLeDiff, Nat.reduceSub, Nat.reduceMul, Int.reduceToNat, List.size_toArray, tyF, MM, bu0, ipure, kpure, tpure, sspure, kset, tset, ksnoc, tsnoc, Kind.av, Twist.sl, Twist.tr, Invar.av]
  refine callP_of (toInt64S _ h2) ?_
  simp -dsimp -implicitDefEqProofs (disch := first | omega | (simp only [lenr]; done) | (simp only [lenr]; omega)) only [↓amPre, amAll, ↓reduceIte, reduceCtorEq, Nat.reduceEqDiff, Nat.reduceBEq, Nat.reduceAdd, Nat.reduceLeDiff, Nat.reduceSub, Nat.reduceMul, Int.reduceToNat, List.size_toArray, tyF, MM, bu0, ipure, kpure, tpure, sspure, kset, tset, ksnoc, tsnoc, Kind.av, Twist.sl, Twist.tr, Invar.av, Twist.tr]
def nilTw : AV := .agg [.nilsl, .nilsl]
theorem toTwistS (l : List Twist) (hl : l.length ≤ 1099511627776) (he : ∀ t ∈ l, t.to.length ≤ 1099511627776 ∧ t.by'.length ≤ 1099511627776) : SpecAt Try.prog 191 [tsl l] (ttr l) := by
  refine spec_of_awp (M := MM) (np := 1) (fz := false) mixed Try.func191 rfl rfl (by decide) rfl (Nat.le_refl _) (by decide +kernel) (.inl rfl) (by first | trivial | simp only [sigsOk_nil, sigsOk_some, sigsOk_none, sig_tr, sig_pt, sig_mt, sig_agg, List.map_cons, List.map_nil, sig1_tr, sig1_pt, sig1_v, and_self, true_and, List.length_map, List.length_set]) ?_
  simp -dsimp -implicitDefEqProofs (disch := first | omega | (simp only [lenr]; done) | (simp only [lenr]; omega)) only [↓amPre, amAll, ↓reduceIte, reduceCtorEq, Nat.reduceEqDiff, Nat.reduceBEq, Nat.reduceAdd, Nat.reduceLeDiff, Nat.reduceSub, Nat.reduceMul, Int.reduceToNat, List.size_toArray, tyF, MM, bu0, ipure, kpure, tpure, sspure, kset, tset, ksnoc, tsnoc, Kind.av, Twist.sl, Twist.tr, Invar.av]
  refine awp_loop (fun j st => j ≤ l.length ∧ st.fr 4 = .i64 j ∧ st.fr 0 = tsl l ∧ st.fr 3 = .ref 7 [] 2 0 l.length ∧ st.mem 7 = some (.tr 2 (mixL (l.map Twist.tr) (List.replicate l.length nilTw) j))) (l.length) ?_ ?_
  · simp -dsimp -implicitDefEqProofs (disch := first | omega | (simp only [lenr]; done) | (simp only [lenr]; omega)) only [↓amPre, amAll, ↓reduceIte, reduceCtorEq, Nat.reduceEqDiff, Nat.reduceBEq, Nat.reduceAdd, Nat.reduceLeDiff, Nat.reduceSub, Nat.reduceMul, Int.reduceToNat, List.size_toArray, tyF, MM, bu0, ipure, kpure, tpure, sspure, kset, tset, ksnoc, tsnoc, Kind.av, Twist.sl, Twist.tr, Invar.av, mixL_zero]
    simp [nilTw]
  rintro j st _ ⟨hj, f4, f0, f3, m7⟩
  have hr : (l.map Twist.tr).length = (List.replicate l.length nilTw).length := by simp
  have hm := mixL_len (l.map Twist.tr) (List.replicate l.length nilTw) j hr
  rw [List.length_replicate] at hm
  by_cases hlt : j < l.length
  · have hs := mixL_set (l.map Twist.tr) (List.replicate l.length nilTw) j .any hr (by simp; omega)
    rw [gm _ _ _ hlt, Twist.tr] at hs
    obtain ⟨e1, e2⟩ := he _ (mem_getD l j default hlt)
    simp -dsimp -implicitDefEqProofs (disch := first | omega | (simp only [lenr]; done) | (simp only [lenr]; omega)) only [↓amPre, amAll, ↓reduceIte, reduceCtorEq, Nat.reduceEqDiff, Nat.reduceBEq, Nat.reduceAdd, Nat.reduceLeDiff, Nat.reduceSub, Nat.reduceMul, Int.reduceToNat, List.size_toArray, tyF, MM, bu0, ipure, kpure, tpure, sspure, kset, tset, ksnoc, tsnoc, Kind.av, Twist.sl, Twist.tr, Invar.av, f4, f0, f3, m7, hm]
    refine callP_of (toTwist (l.getD j default) e1 e2) ?_
    simp -dsimp -implicitDefEqProofs (disch := first | omega | (simp only [lenr]; done) | (simp only [lenr]; omega)) only [↓amPre, amAll, ↓reduceIte, reduceCtorEq, Nat.reduceEqDiff, Nat.reduceBEq, Nat.reduceAdd, Nat.reduceLeDiff, Nat.reduceSub, Nat.reduceMul, Int.reduceToNat, List.size_toArray, tyF, MM, bu0, ipure, kpure, tpure, sspure, kset, tset, ksnoc, tsnoc, Kind.av, Twist.sl, Twist.tr, Invar.av, f4, f0, f3, m7, hm, hs]
    repeat' (first | omega | rfl | exact i64c (by omega) | exact vic (by omega) | apply And.intro)
  · have hj' : j = l.length := by omega
    subst hj'
    have := mixL_all (l.map Twist.tr) (List.replicate l.length nilTw) l.length (by simp) (by simp)
    simp -dsimp -implicitDefEqProofs (disch := first | omega | (simp only [lenr]; done) | (simp only [lenr]; omega)) only [↓amPre, amAll, ↓reduceIte, reduceCtorEq, Nat.reduceEqDiff, Nat.reduceBEq, Nat.reduceAdd, Nat.reduceLeDiff, Nat.reduceSub, Nat.reduceMul, Int.reduceToNat, List.size_toArray, tyF, MM, bu0, ipure, kpure, tpure, sspure, kset, tset, ksnoc, tsnoc, Kind.av, Twist.sl, Twist.tr, Invar.av, f4, f0, f3, m7, hm, this]
theorem szTwist (t : Twist) (k : Int) (h0 : 0 ≤ k) (h1 : k ≤ 1048576) (h2 : t.to.length ≤ 9223372036854775807) (h3 : t.by'.length ≤ 9223372036854775807) : SpecAt Try.prog 232 [t.sl, .i64 k] (.i64 (szR k (Mk.cnt t))) := by
  have ec : Mk.cnt t = t.to.length + t.by'.length := rfl
  refine spec_of_awp (M := MM) (np := 2) (fz := true) mixed Try.func232 rfl rfl (by decide) rfl (Nat.le_refl _) (by decide +kernel) (.inr ⟨rfl, rfl⟩) trivial ?_
  simp -dsimp -implicitDefEqProofs (disch := first | omega | (simp only [lenr]; done) | (simp only [lenr]; omega)) only [↓amPre, amAll, ↓reduceIte, reduceCtorEq, Nat.reduceEqDiff, Nat.reduceBEq, Nat.reduceAdd, Nat.reduceLeDiff, Nat.reduceSub, Nat.reduceMul, Int.reduceToNat, List.size_toArray, tyF, MM, bu0, ipure, kpure, tpure, sspure, kset, tset, ksnoc, tsnoc, Kind.av, Twist.sl, Twist.tr, Invar.av]
  refine callP_of (szInt64S _ _ (by unfold intOk; omega) h0 h2) ?_
  by_cases c1 : k - t.to.length < 0
  · simp -dsimp -implicitDefEqProofs (disch := first | omega | (simp only [lenr]; done) | (simp only [lenr]; omega)) only [↓amPre, amAll, ↓reduceIte, reduceCtorEq, Nat.reduceEqDiff, Nat.reduceBEq, Nat.reduceAdd, Nat.reduceLeDiff, Nat.reduceSub, Nat.reduceMul, Int.reduceToNat, List.size_toArray, tyF, MM, bu0, ipure, kpure, tpure, sspure, kset, tset, ksnoc, tsnoc, Kind.av, Twist.sl, Twist.tr, Invar.av, szR_neg c1]
    rw [szR_neg (by omega)]
  · simp -dsimp -implicitDefEqProofs (disch := first | omega | (simp only [lenr]; done) | (simp only [lenr]; omega)) only [↓amPre, amAll, ↓reduceIte, reduceCtorEq, Nat.reduceEqDiff, Nat.reduceBEq, Nat.reduceAdd, Nat.reduceLeDiff, Nat.reduceSub, Nat.reduceMul, Int.reduceToNat, List.size_toArray, tyF, MM, bu0, ipure, kpure, tpure, sspure, kset, tset, ksnoc, tsnoc, Kind.av, Twist.sl, Twist.tr, Invar.av, szR_pos (Int.not_lt.1 c1)]
    refine callP_of (szInt64S _ _ (by unfold intOk; omega) (by omega) h3) ?_
    by_cases c2 : k - t.to.length - t.by'.length < 0
    · simp -dsimp -implicitDefEqProofs (disch := first | omega | (simp only [lenr]; done) | (simp only [lenr]; omega)) only [↓amPre, amAll, ↓reduceIte, reduceCtorEq, Nat.reduceEqDiff, Nat.reduceBEq, Nat.reduceAdd, Nat.reduceLeDiff, Nat.reduceSub, Nat.reduceMul, Int.reduceToNat, List.size_toArray, tyF, MM, bu0, ipure, kpure, tpure, sspure, kset, tset, ksnoc, tsnoc, Kind.av, Twist.sl, Twist.tr, Invar.av, szR_neg c2]
      rw [szR_neg (by omega)]
    · simp -dsimp -implicitDefEqProofs (disch := first | omega | (simp only [lenr]; done) | (simp only [lenr]; omega)) only [↓amPre, amAll, ↓reduceIte, reduceCtorEq, Nat.reduceEqDiff, Nat.reduceBEq, Nat.reduceAdd, Nat.reduceLeDiff, Nat.reduceSub, Nat.reduceMul, Int.reduceToNat, List.size_toArray, tyF, MM, bu0, ipure, kpure, tpure, sspure, kset, tset, ksnoc, tsnoc, Kind.av, Twist.sl, Twist.tr, Invar.av, szR_pos (Int.not_lt.1 c2)]
      rw [szR_pos (by omega)]
      exact vic (by omega)
theorem szTwistS (l : List Twist) (k : Int) (h0 : 0 ≤ k) (h1 : k ≤ 1048576) (hl : l.length ≤ 9223372036854775807) (he : ∀ t ∈ l, t.to.length ≤ 9223372036854775807 ∧ t.by'.length ≤ 9223372036854775807) : SpecAt Try.prog 189 [tsl l, .i64 k] (.i64 (szR k (sizeL l))) := by
  refine spec_of_awp (M := MM) (np := 2) (fz := true) mixed Try.func189 rfl rfl (by decide) rfl (Nat.le_refl _) (by decide +kernel) (.inr ⟨rfl, rfl⟩) trivial ?_
  simp -dsimp -implicitDefEqProofs (disch := first | omega | (simp only [lenr]; done) | (simp only [lenr]; omega)) only [↓amPre, amAll, ↓reduceIte, reduceCtorEq, Nat.reduceEqDiff, Nat.reduceBEq, Nat.reduceAdd, Nat.reduceLeDiff, Nat.reduceSub, Nat.reduceMul, Int.reduceToNat, List.size_toArray, tyF, MM, bu0, ipure, kpure, tpure, sspure, kset, tset, ksnoc, tsnoc, Kind.av, Twist.sl, Twist.tr, Invar.av]
  refine ifP_mk ?_ ?_ <;> intro c1
  · simp -dsimp -implicitDefEqProofs (disch := first | omega | (simp only [lenr]; done) | (simp only [lenr]; omega)) only [↓amPre, amAll, ↓reduceIte, reduceCtorEq, Nat.reduceEqDiff, Nat.reduceBEq, Nat.reduceAdd, Nat.reduceLeDiff, Nat.reduceSub, Nat.reduceMul, Int.reduceToNat, List.size_toArray, tyF, MM, bu0, ipure, kpure, tpure, sspure, kset, tset, ksnoc, tsnoc, Kind.av, Twist.sl, Twist.tr, Invar.av, c1]
    simp at c1
    rw [szR_neg (by unfold sizeL; omega)]
  simp at c1
  simp -dsimp -implicitDefEqProofs (disch := first | omega | (simp only [lenr]; done) | (simp only [lenr]; omega)) only [↓amPre, amAll, ↓reduceIte, reduceCtorEq, Nat.reduceEqDiff, Nat.reduceBEq, Nat.reduceAdd, Nat.reduceLeDiff, Nat.reduceSub, Nat.reduceMul, Int.reduceToNat, List.size_toArray, tyF, MM, bu0, ipure, kpure, tpure, sspure, kset, tset, ksnoc, tsnoc, Kind.av, Twist.sl, Twist.tr, Invar.av, lt_false c1]
  refine awp_loop (fun j st => j ≤ l.length ∧ st.fr 5 = .i64 j ∧ st.fr 1 = .i64 (k - l.length - cnts (l.take j)) ∧ st.fr 0 = tsl l ∧ 0 ≤ k - l.length - cnts (l.take j)) (l.length) ?_ ?_
  · simp -dsimp -implicitDefEqProofs (disch := first | omega | (simp only [lenr]; done) | (simp only [lenr]; omega)) only [↓amPre, amAll, ↓reduceIte, reduceCtorEq, Nat.reduceEqDiff, Nat.reduceBEq, Nat.reduceAdd, Nat.reduceLeDiff, Nat.reduceSub, Nat.reduceMul, Int.reduceToNat, List.size_toArray, tyF, MM, bu0, ipure, kpure, tpure, sspure, kset, tset, ksnoc, tsnoc, Kind.av, Twist.sl, Twist.tr, Invar.av]
    simp [cnts]; omega
  rintro j st _ ⟨hj, f5, f1, f0, ej⟩
  by_cases hlt : j < l.length
  · have ct := cnts_take l j hlt
    obtain ⟨e1, e2⟩ := he _ (mem_getD l j default hlt)
    simp -dsimp -implicitDefEqProofs (disch := first | omega | (simp only [lenr]; done) | (simp only [lenr]; omega)) only [↓amPre, amAll, ↓reduceIte, reduceCtorEq, Nat.reduceEqDiff, Nat.reduceBEq, Nat.reduceAdd, Nat.reduceLeDiff, Nat.reduceSub, Nat.reduceMul, Int.reduceToNat, List.size_toArray, tyF, MM, bu0, ipure, kpure, tpure, sspure, kset, tset, ksnoc, tsnoc, Kind.av, Twist.sl, Twist.tr, Invar.av, f5, f1, f0]
    refine callP_of (szTwist (l.getD j default) _ ej (by omega) e1 e2) ?_
    by_cases c2 : k - l.length - cnts (l.take j) - (Mk.cnt (l.getD j default) : Nat) < 0
    · simp -dsimp -implicitDefEqProofs (disch := first | omega | (simp only [lenr]; done) | (simp only [lenr]; omega)) only [↓amPre, amAll, ↓reduceIte, reduceCtorEq, Nat.reduceEqDiff, Nat.reduceBEq, Nat.reduceAdd, Nat.reduceLeDiff, Nat.reduceSub, Nat.reduceMul, Int.reduceToNat, List.size_toArray, tyF, MM, bu0, ipure, kpure, tpure, sspure, kset, tset, ksnoc, tsnoc, Kind.av, Twist.sl, Twist.tr, Invar.av, f5, f1, f0, szR_neg c2]
      rw [szR_neg]
      have := cnts_le1 l j hlt
      unfold sizeL; omega
    · simp -dsimp -implicitDefEqProofs (disch := first | omega | (simp only [lenr]; done) | (simp only [lenr]; omega)) only [↓amPre, amAll, ↓reduceIte, reduceCtorEq, Nat.reduceEqDiff, Nat.reduceBEq, Nat.reduceAdd, Nat.reduceLeDiff, Nat.reduceSub, Nat.reduceMul, Int.reduceToNat, List.size_toArray, tyF, MM, bu0, ipure, kpure, tpure, sspure, kset, tset, ksnoc, tsnoc, Kind.av, Twist.sl, Twist.tr, Invar.av, f5, f1, f0, szR_pos (Int.not_lt.1 c2)]
      repeat' (first | omega | rfl | exact i64c (by omega) | exact vic (by omega) | apply And.intro)
  · have hj' : j = l.length := by omega
    subst hj'
    rw [List.take_length] at *
    simp -dsimp -implicitDefEqProofs (disch := first | omega | (simp only [lenr]; done) | (simp only [lenr]; omega)) only [↓amPre, amAll, ↓reduceIte, reduceCtorEq, Nat.reduceEqDiff, Nat.reduceBEq, Nat.reduceAdd, Nat.reduceLeDiff, Nat.reduceSub, Nat.reduceMul, Int.reduceToNat, List.size_toArray, tyF, MM, bu0, ipure, kpure, tpure, sspure, kset, tset, ksnoc, tsnoc, Kind.av, Twist.sl, Twist.tr, Invar.av, f5, f1, f0]
    rw [szR_pos (by unfold sizeL; omega)]
    exact vic (by unfold sizeL; omega)
theorem eqTwist (a b : Twist) (h1 : a.to.length ≤ 1099511627776) (h2 : a.by'.length ≤ 1099511627776) : SpecAt Try.prog 234 [a.sl, b.sl] (.bl (decide (a = b))) := by
  refine spec_of_awp (M := MM) (np := 2) (fz := true) mixed Try.func234 rfl rfl (by decide) rfl (Nat.le_refl _) (by decide +kernel) (.inr ⟨rfl, rfl⟩) trivial ?_
  simp -dsimp -implicitDefEqProofs (disch := first | omega | (simp only [lenr]; done) | (simp only [lenr]; omega)) only [↓amPre, amAll, ↓reduceIte, reduceCtorEq, Nat.reduceEqDiff, Nat.reduceBEq, Nat.reduceAdd, Nat.reduceLeDiff, Nat.reduceSub, Nat.reduceMul, Int.reduceToNat, List.size_toArray, tyF, MM, bu0, ipure, kpure, tpure, sspure, kset, tset, ksnoc, tsnoc, Kind.av, Twist.sl, Twist.tr, Invar.av]
  refine callP_of (eqInt64S _ _ h1) ?_
  obtain ⟨a1, a2⟩ := a
  obtain ⟨b1, b2⟩ := b
  cases c1 : decide (a1 = b1) with
  | false =>
    simp -dsimp -implicitDefEqProofs (disch := first | omega | (simp only [lenr]; done) | (simp only [lenr]; omega)) only [↓amPre, amAll, ↓reduceIte, reduceCtorEq, Nat.reduceEqDiff, Nat.reduceBEq, Nat.reduceAdd, Nat.reduceLeDiff, Nat.reduceSub, Nat.reduceMul, Int.reduceToNat, List.size_toArray, tyF, MM, bu0, ipure, kpure, tpure, sspure, kset, tset, ksnoc, tsnoc, Kind.av, Twist.sl, Twist.tr, Invar.av, c1]
    simp at c1; simp [c1]
  | true =>
    simp -dsimp -implicitDefEqProofs (disch := first | omega | (simp only [lenr]; done) | (simp only [lenr]; omega)) only [↓amPre, amAll, ↓reduceIte, reduceCtorEq, Nat.reduceEqDiff, Nat.reduceBEq, Nat.reduceAdd, Nat.reduceLeDiff, Nat.reduceSub, Nat.reduceMul, Int.reduceToNat, List.size_toArray, tyF, MM, bu0, ipure, kpure, tpure, sspure, kset, tset, ksnoc, tsnoc, Kind.av, Twist.sl, Twist.tr, Invar.av, c1]
    refine callP_of (eqInt64S _ _ h2) ?_
    cases c2 : decide (a2 = b2) with
    | false =>
      simp -dsimp -implicitDefEqProofs (disch := first | omega | (simp only [lenr]; done) | (simp only [lenr]; omega)) only [↓amPre, amAll, ↓reduceIte, reduceCtorEq, Nat.reduceEqDiff, Nat.reduceBEq, Nat.reduceAdd, Nat.reduceLeDiff, Nat.reduceSub, Nat.reduceMul, Int.reduceToNat, List.size_toArray, tyF, MM, bu0, ipure, kpure, tpure, sspure, kset, tset, ksnoc, tsnoc, Kind.av, Twist.sl, Twist.tr, Invar.av, c2]
      simp at c2; simp [c2]
    | true =>
      simp -dsimp -implicitDefEqProofs (disch := first | omega | (simp only [lenr]; done) | (simp only [lenr]; omega)) only [↓amPre, amAll, ↓reduceIte, reduceCtorEq, Nat.reduceEqDiff, Nat.reduceBEq, Nat.reduceAdd, Nat.reduceLeDiff, Nat.reduceSub, Nat.reduceMul, Int.reduceToNat, List.size_toArray, tyF, MM, bu0, ipure, kpure, tpure, sspure, kset, tset, ksnoc, tsnoc, Kind.av, Twist.sl, Twist.tr, Invar.av, c2]
      simp at c1 c2; simp [c1, c2]
theorem eqTwistS (a b : List Twist) (ha : a.length ≤ 1099511627776) (he : ∀ t ∈ a, t.to.length ≤ 1099511627776 ∧ t.by'.length ≤ 1099511627776) : SpecAt Try.prog 193 [tsl a, tsl b] (.bl (decide (a = b))) := by
  refine spec_of_awp (M := MM) (np := 2) (fz := true) mixed Try.func193 rfl rfl (by decide) rfl (Nat.le_refl _) (by decide +kernel) (.inr ⟨rfl, rfl⟩) trivial ?_
  simp -dsimp -implicitDefEqProofs (disch := first | omega | (simp only [lenr]; done) | (simp only [lenr]; omega)) only [↓amPre, amAll, ↓reduceIte, reduceCtorEq, Nat.reduceEqDiff, Nat.reduceBEq, Nat.reduceAdd, Nat.reduceLeDiff, Nat.reduceSub, Nat.reduceMul, Int.reduceToNat, List.size_toArray, tyF, MM, bu0, ipure, kpure, tpure, sspure, kset, tset, ksnoc, tsnoc, Kind.av, Twist.sl, Twist.tr, Invar.av]
  refine ifP_mk ?_ ?_ <;> intro h1
  · simp -dsimp -implicitDefEqProofs (disch := first | omega | (simp only [lenr]; done) | (simp only [lenr]; omega)) only [↓amPre, amAll, ↓reduceIte, reduceCtorEq, Nat.reduceEqDiff, Nat.reduceBEq, Nat.reduceAdd, Nat.reduceLeDiff, Nat.reduceSub, Nat.reduceMul, Int.reduceToNat, List.size_toArray, tyF, MM, bu0, ipure, kpure, tpure, sspure, kset, tset, ksnoc, tsnoc, Kind.av, Twist.sl, Twist.tr, Invar.av, h1]
    have : ¬ a = b := by intro e; subst e; simp at h1
    simp [this]
  simp -dsimp -implicitDefEqProofs (disch := first | omega | (simp only [lenr]; done) | (simp only [lenr]; omega)) only [↓amPre, amAll, ↓reduceIte, reduceCtorEq, Nat.reduceEqDiff, Nat.reduceBEq, Nat.reduceAdd, Nat.reduceLeDiff, Nat.reduceSub, Nat.reduceMul, Int.reduceToNat, List.size_toArray, tyF, MM, bu0, ipure, kpure, tpure, sspure, kset, tset, ksnoc, tsnoc, Kind.av, Twist.sl, Twist.tr, Invar.av, h1]
  have hab : a.length = b.length := by simp at h1; omega
  refine awp_loop (fun k st => k ≤ a.length ∧ st.fr 5 = .i64 k ∧ st.fr 0 = tsl a ∧ st.fr 1 = tsl b ∧ a.take k = b.take k) (a.length) ?_ ?_
  · simp -dsimp -implicitDefEqProofs (disch := first | omega | (simp only [lenr]; done) | (simp only [lenr]; omega)) only [↓amPre, amAll, ↓reduceIte, reduceCtorEq, Nat.reduceEqDiff, Nat.reduceBEq, Nat.reduceAdd, Nat.reduceLeDiff, Nat.reduceSub, Nat.reduceMul, Int.reduceToNat, List.size_toArray, tyF, MM, bu0, ipure, kpure, tpure, sspure, kset, tset, ksnoc, tsnoc, Kind.av, Twist.sl, Twist.tr, Invar.av]
    repeat' (first | omega | rfl | exact i64c (by omega) | exact vic (by omega) | apply And.intro)
  rintro k st _ ⟨hk, f5, f0, f1, ek⟩
  by_cases hlt : k < a.length
  · obtain ⟨e1, e2⟩ := he _ (mem_getD a k default hlt)
    simp -dsimp -implicitDefEqProofs (disch := first | omega | (simp only [lenr]; done) | (simp only [lenr]; omega)) only [↓amPre, amAll, ↓reduceIte, reduceCtorEq, Nat.reduceEqDiff, Nat.reduceBEq, Nat.reduceAdd, Nat.reduceLeDiff, Nat.reduceSub, Nat.reduceMul, Int.reduceToNat, List.size_toArray, tyF, MM, bu0, ipure, kpure, tpure, sspure, kset, tset, ksnoc, tsnoc, Kind.av, Twist.sl, Twist.tr, Invar.av, f5, f0, f1]
    refine callP_of (eqTwist (a.getD k default) (b.getD k default) e1 e2) ?_
    cases w1 : decide (a.getD k default = b.getD k default) with
    | false =>
      simp -dsimp -implicitDefEqProofs (disch := first | omega | (simp only [lenr]; done) | (simp only [lenr]; omega)) only [↓amPre, amAll, ↓reduceIte, reduceCtorEq, Nat.reduceEqDiff, Nat.reduceBEq, Nat.reduceAdd, Nat.reduceLeDiff, Nat.reduceSub, Nat.reduceMul, Int.reduceToNat, List.size_toArray, tyF, MM, bu0, ipure, kpure, tpure, sspure, kset, tset, ksnoc, tsnoc, Kind.av, Twist.sl, Twist.tr, Invar.av, f5, f0, f1, w1]
      simp only [decide_eq_false_iff_not] at w1
      have hne : ¬ a = b := by
        intro e; subst e; exact w1 rfl
      simp [hne]
    | true =>
      simp -dsimp -implicitDefEqProofs (disch := first | omega | (simp only [lenr]; done) | (simp only [lenr]; omega)) only [↓amPre, amAll, ↓reduceIte, reduceCtorEq, Nat.reduceEqDiff, Nat.reduceBEq, Nat.reduceAdd, Nat.reduceLeDiff, Nat.reduceSub, Nat.reduceMul, Int.reduceToNat, List.size_toArray, tyF, MM, bu0, ipure, kpure, tpure, sspure, kset, tset, ksnoc, tsnoc, Kind.av, Twist.sl, Twist.tr, Invar.av, f5, f0, f1, w1]
      simp only [decide_eq_true_eq] at w1
      repeat' (first | omega | rfl | exact i64c (by omega) | exact vic (by omega) | exact (take_eq_iff default k hlt (by omega)).2 ⟨ek, w1⟩ | apply And.intro)
  · have hke : k = a.length := by omega
    subst hke
    simp -dsimp -implicitDefEqProofs (disch := first | omega | (simp only [lenr]; done) | (simp only [lenr]; omega)) only [↓amPre, amAll, ↓reduceIte, reduceCtorEq, Nat.reduceEqDiff, Nat.reduceBEq, Nat.reduceAdd, Nat.reduceLeDiff, Nat.reduceSub, Nat.reduceMul, Int.reduceToNat, List.size_toArray, tyF, MM, bu0, ipure, kpure, tpure, sspure, kset, tset, ksnoc, tsnoc, Kind.av, Twist.sl, Twist.tr, Invar.av, f5, f0, f1]
    simp [eq_of_takes hab ek]
theorem tmks_get (k : Int) (l : List Twist) (i : Nat) (h : i < l.length) : (mks k l).getD i default = ⟨runI (k + cnts (l.take i)) (l.getD i default).to.length, runI (k + cnts (l.take i) + (l.getD i default).to.length) (l.getD i default).by'.length⟩ := mks_get k l i h
theorem tcnt (t : Twist) : Mk.cnt t = t.to.length + t.by'.length := rfl
theorem markTwistS (l : List Twist) (k : Int) (h0 : 0 ≤ k) (h1 : k + cnts l ≤ 1099511627776) (hl : l.length ≤ 1099511627776) : SpecX Try.prog 194 [ttr l, .i64 k] [some (ttr (mks k l))] (.i64 (k + cnts l)) := by
  refine spec_of_awp (M := MM) (np := 2) (fz := false) mixed Try.func194 rfl rfl (by decide) rfl (Nat.le_refl _) (by decide +kernel) (.inl rfl) (by simp only [sigsOk_some, sigsOk_nil, sig_tr, List.length_map, mks_len, and_self]) ?_
  simp -dsimp -implicitDefEqProofs (disch := first | omega | (simp only [lenr]; done) | (simp only [lenr]; omega)) only [↓amPre, amAll, ↓reduceIte, reduceCtorEq, Nat.reduceEqDiff, Nat.reduceBEq, Nat.reduceAdd, Nat.reduceLeDiff, Nat.reduceSub, Nat.reduceMul, Int.reduceToNat, List.size_toArray, tyF, MM, bu0, ipure, kpure, tpure, sspure, kset, tset, ksnoc, tsnoc, Kind.av, Twist.sl, Twist.tr, Invar.av]
  have hr := mks_len k l
  refine awp_loop (fun j st => j ≤ l.length ∧ st.fr 5 = .i64 j ∧ st.fr 1 = .i64 (k + cnts (l.take j)) ∧ st.fr 0 = .ref 0 [] 2 0 l.length ∧ st.mem 0 = some (ttr (mixL (mks k l) l j))) (l.length) ?_ ?_
  · simp -dsimp -implicitDefEqProofs (disch := first | omega | (simp only [lenr]; done) | (simp only [lenr]; omega)) only [↓amPre, amAll, ↓reduceIte, reduceCtorEq, Nat.reduceEqDiff, Nat.reduceBEq, Nat.reduceAdd, Nat.reduceLeDiff, Nat.reduceSub, Nat.reduceMul, Int.reduceToNat, List.size_toArray, tyF, MM, bu0, ipure, kpure, tpure, sspure, kset, tset, ksnoc, tsnoc, Kind.av, Twist.sl, Twist.tr, Invar.av, mixL_zero]
    simp [cnts]
  rintro j st _ ⟨hj, f5, f1, f0, m0⟩
  have hml := mixL_len (mks k l) l j hr
  by_cases hlt : j < l.length
  · have hs := mixL_set (mks k l) l j default hr hlt
    have hg := mixL_get (mks k l) l j default hr hlt
    rw [tmks_get _ _ _ hlt] at hs
    have ct := cnts_take l j hlt
    have cl := cnts_le1 l j hlt
    rw [tcnt] at ct cl
    simp -dsimp -implicitDefEqProofs (disch := first | omega | (simp only [lenr]; done) | (simp only [lenr]; omega)) only [↓amPre, amAll, ↓reduceIte, reduceCtorEq, Nat.reduceEqDiff, Nat.reduceBEq, Nat.reduceAdd, Nat.reduceLeDiff, Nat.reduceSub, Nat.reduceMul, Int.reduceToNat, List.size_toArray, tyF, MM, bu0, ipure, kpure, tpure, sspure, kset, tset, ksnoc, tsnoc, Kind.av, Twist.sl, Twist.tr, Invar.av, f5, f1, f0, m0, hml, hg]
    refine callX_of (markInt64S (l.getD j default).to _ (by omega) (by omega) (by omega)) ?_
    simp -dsimp -implicitDefEqProofs (disch := first | omega | (simp only [lenr]; done) | (simp only [lenr]; omega)) only [↓amPre, amAll, ↓reduceIte, reduceCtorEq, Nat.reduceEqDiff, Nat.reduceBEq, Nat.reduceAdd, Nat.reduceLeDiff, Nat.reduceSub, Nat.reduceMul, Int.reduceToNat, List.size_toArray, tyF, MM, bu0, ipure, kpure, tpure, sspure, kset, tset, ksnoc, tsnoc, Kind.av, Twist.sl, Twist.tr, Invar.av, f5, f1, f0, m0, hml, hg]
    refine callX_of (markInt64S (l.getD j default).by' _ (by omega) (by omega) (by omega)) ?_
    simp -dsimp -implicitDefEqProofs (disch := first | omega | (simp only [lenr]; done) | (simp only [lenr]; omega)) only [↓amPre, amAll, ↓reduceIte, reduceCtorEq, Nat.reduceEqDiff, Nat.reduceBEq, Nat.reduceAdd, Nat.reduceLeDiff, Nat.reduceSub, Nat.reduceMul, Int.reduceToNat, List.size_toArray, tyF, MM, bu0, ipure, kpure, tpure, sspure, kset, tset, ksnoc, tsnoc, Kind.av, Twist.sl, Twist.tr, Invar.av, f5, f1, f0, m0, hml, hg, hs]
    repeat' (first | omega | rfl | exact i64c (by omega) | exact vic (by omega) | apply And.intro)
  · have hj' : j = l.length := by omega
    subst hj'
    have := mixL_all (mks k l) l l.length (by omega) (by omega)
    simp -dsimp -implicitDefEqProofs (disch := first | omega | (simp only [lenr]; done) | (simp only [lenr]; omega)) only [↓amPre, amAll, ↓reduceIte, reduceCtorEq, Nat.reduceEqDiff, Nat.reduceBEq, Nat.reduceAdd, Nat.reduceLeDiff, Nat.reduceSub, Nat.reduceMul, Int.reduceToNat, List.size_toArray, tyF, MM, bu0, ipure, kpure, tpure, sspure, kset, tset, ksnoc, tsnoc, Kind.av, Twist.sl, Twist.tr, Invar.av, f5, f1, f0, m0, hml, this, List.take_length]
end Go.AM
set_option maxRecDepth 8000
namespace Go.AM
open Go.Proofs
theorem inRange (x lo hi : Int) : SpecAt Try.prog 84 [.i64 x, .i64 lo, .i64 hi] (.bl (within x lo hi)) := by
  refine spec_of_awp (M := MM) (np := 3) (fz := true) mixed Try.func84 rfl rfl (by decide) rfl (Nat.le_refl _) (by decide +kernel) (.inr ⟨rfl, rfl⟩) trivial ?_
  simp -dsimp -implicitDefEqProofs (disch := first | omega | (simp only [lenr]; done) | (simp only [lenr]; omega)) only [↓amPre, amAll, ↓reduceIte, reduceCtorEq, Nat.reduceEqDiff, Nat.reduceBEq, Nat.reduceAdd, Nat.reduceLeDiff, Nat.reduceSub, Nat.reduceMul, Int.reduceToNat, List.size_toArray, tyF, MM, bu0, ipure, kpure, tpure, sspure, kset, tset, ksnoc, tsnoc, Kind.av, Twist.sl, Twist.tr, Invar.av]
  refine ifP_mk ?_ ?_ <;> intro h1
  · simp -dsimp -implicitDefEqProofs (disch := first | omega | (simp only [lenr]; done) | (simp only [lenr]; omega)) only [↓amPre, amAll, ↓reduceIte, reduceCtorEq, Nat.reduceEqDiff, Nat.reduceBEq, Nat.reduceAdd, Nat.reduceLeDiff, Nat.reduceSub, Nat.reduceMul, Int.reduceToNat, List.size_toArray, tyF, MM, bu0, ipure, kpure, tpure, sspure, kset, tset, ksnoc, tsnoc, Kind.av, Twist.sl, Twist.tr, Invar.av, h1]
    simp [within, h1]
  · simp -dsimp -implicitDefEqProofs (disch := first | omega | (simp only [lenr]; done) | (simp only [lenr]; omega)) only [↓amPre, amAll, ↓reduceIte, reduceCtorEq, Nat.reduceEqDiff, Nat.reduceBEq, Nat.reduceAdd, Nat.reduceLeDiff, Nat.reduceSub, Nat.reduceMul, Int.reduceToNat, List.size_toArray, tyF, MM, bu0, ipure, kpure, tpure, sspure, kset, tset, ksnoc, tsnoc, Kind.av, Twist.sl, Twist.tr, Invar.av, h1]
    simp [within, h1]
theorem iwithin (x lo hi : Int) : SpecAt Try.prog 133 [.i64 x, .i64 lo, .i64 hi] (.bl (within x lo hi)) := by
  refine spec_of_awp (M := MM) (np := 3) (fz := true) mixed Try.func133 rfl rfl (by decide) rfl (Nat.le_refl _) (by decide +kernel) (.inr ⟨rfl, rfl⟩) trivial ?_
  simp -dsimp -implicitDefEqProofs (disch := first | omega | (simp only [lenr]; done) | (simp only [lenr]; omega)) only [↓amPre, amAll, ↓reduceIte, reduceCtorEq, Nat.reduceEqDiff, Nat.reduceBEq, Nat.reduceAdd, Nat.reduceLeDiff, Nat.reduceSub, Nat.reduceMul, Int.reduceToNat, List.size_toArray, tyF, MM, bu0, ipure, kpure, tpure, sspure, kset, tset, ksnoc, tsnoc, Kind.av, Twist.sl, Twist.tr, Invar.av]
  refine ifP_mk ?_ ?_ <;> intro h1
  · simp -dsimp -implicitDefEqProofs (disch := first | omega | (simp only [lenr]; done) | (simp only [lenr]; omega)) only [↓amPre, amAll, ↓reduceIte, reduceCtorEq, Nat.reduceEqDiff, Nat.reduceBEq, Nat.reduceAdd, Nat.reduceLeDiff, Nat.reduceSub, Nat.reduceMul, Int.reduceToNat, List.size_toArray, tyF, MM, bu0, ipure, kpure, tpure, sspure, kset, tset, ksnoc, tsnoc, Kind.av, Twist.sl, Twist.tr, Invar.av, h1]
    simp [within, h1]
  · simp -dsimp -implicitDefEqProofs (disch := first | omega | (simp only [lenr]; done) | (simp only [lenr]; omega)) only [↓amPre, amAll, ↓reduceIte, reduceCtorEq, Nat.reduceEqDiff, Nat.reduceBEq, Nat.reduceAdd, Nat.reduceLeDiff, Nat.reduceSub, Nat.reduceMul, Int.reduceToNat, List.size_toArray, tyF, MM, bu0, ipure, kpure, tpure, sspure, kset, tset, ksnoc, tsnoc, Kind.av, Twist.sl, Twist.tr, Invar.av, h1]
    simp [within, h1]
theorem lenI (l : List Int) : SpecAt Try.prog 148 [isl l] (.i64 l.length) := by
  refine spec_of_awp (M := MM) (np := 1) (fz := true) mixed Try.func148 rfl rfl (by decide) rfl (Nat.le_refl _) (by decide +kernel) (.inr ⟨rfl, rfl⟩) trivial ?_
  simp -dsimp -implicitDefEqProofs (disch := first | omega | (simp only [lenr]; done) | (simp only [lenr]; omega)) only [↓amPre, amAll, ↓reduceIte, reduceCtorEq, Nat.reduceEqDiff, Nat.reduceBEq, Nat.reduceAdd, Nat.reduceLeDiff, Nat.reduceSub, Nat.reduceMul, Int.reduceToNat, List.size_toArray, tyF, MM, bu0, ipure, kpure, tpure, sspure, kset, tset, ksnoc, tsnoc, Kind.av, Twist.sl, Twist.tr, Invar.av]
theorem lenK (l : List Kind) : SpecAt Try.prog 81 [ksl l] (.i64 l.length) := by
  refine spec_of_awp (M := MM) (np := 1) (fz := true) mixed Try.func81 rfl rfl (by decide) rfl (Nat.le_refl _) (by decide +kernel) (.inr ⟨rfl, rfl⟩) trivial ?_
  simp -dsimp -implicitDefEqProofs (disch := first | omega | (simp only [lenr]; done) | (simp only [lenr]; omega)) only [↓amPre, amAll, ↓reduceIte, reduceCtorEq, Nat.reduceEqDiff, Nat.reduceBEq, Nat.reduceAdd, Nat.reduceLeDiff, Nat.reduceSub, Nat.reduceMul, Int.reduceToNat, List.size_toArray, tyF, MM, bu0, ipure, kpure, tpure, sspure, kset, tset, ksnoc, tsnoc, Kind.av, Twist.sl, Twist.tr, Invar.av]
theorem containsInt (l : List Int) (x : Int) (hl : l.length ≤ 1099511627776) : SpecAt Try.prog 220 [isl l, .i64 x] (.bl (decide (x ∈ l))) := by
  refine spec_of_awp (M := MM) (np := 2) (fz := true) mixed Try.func220 rfl rfl (by decide) rfl (Nat.le_refl _) (by decide +kernel) (.inr ⟨rfl, rfl⟩) trivial ?_
  simp -dsimp -implicitDefEqProofs (disch := first | omega | (simp only [lenr]; done) | (simp only [lenr]; omega)) only [↓amPre, amAll, ↓reduceIte, reduceCtorEq, Nat.reduceEqDiff, Nat.reduceBEq, Nat.reduceAdd, Nat.reduceLeDiff, Nat.reduceSub, Nat.reduceMul, Int.reduceToNat, List.size_toArray, tyF, MM, bu0, ipure, kpure, tpure, sspure, kset, tset, ksnoc, tsnoc, Kind.av, Twist.sl, Twist.tr, Invar.av]
  refine awp_loop (fun k st => k ≤ l.length ∧ st.fr 5 = .i64 k ∧ st.fr 0 = isl l ∧ st.fr 1 = .i64 x ∧ ∀ y ∈ l.take k, y ≠ x) (l.length) ?_ ?_
  · simp -dsimp -implicitDefEqProofs (disch := first | omega | (simp only [lenr]; done) | (simp only [lenr]; omega)) only [↓amPre, amAll, ↓reduceIte, reduceCtorEq, Nat.reduceEqDiff, Nat.reduceBEq, Nat.reduceAdd, Nat.reduceLeDiff, Nat.reduceSub, Nat.reduceMul, Int.reduceToNat, List.size_toArray, tyF, MM, bu0, ipure, kpure, tpure, sspure, kset, tset, ksnoc, tsnoc, Kind.av, Twist.sl, Twist.tr, Invar.av]
    simp
  rintro k st _ ⟨hk, f5, f0, f1, ek⟩
  by_cases hlt : k < l.length
  · simp -dsimp -implicitDefEqProofs (disch := first | omega | (simp only [lenr]; done) | (simp only [lenr]; omega)) only [↓amPre, amAll, ↓reduceIte, reduceCtorEq, Nat.reduceEqDiff, Nat.reduceBEq, Nat.reduceAdd, Nat.reduceLeDiff, Nat.reduceSub, Nat.reduceMul, Int.reduceToNat, List.size_toArray, tyF, MM, bu0, ipure, kpure, tpure, sspure, kset, tset, ksnoc, tsnoc, Kind.av, Twist.sl, Twist.tr, Invar.av, f5, f0, f1]
    refine ifP_mk ?_ ?_ <;> intro w
    · simp -dsimp -implicitDefEqProofs (disch := first | omega | (simp only [lenr]; done) | (simp only [lenr]; omega)) only [↓amPre, amAll, ↓reduceIte, reduceCtorEq, Nat.reduceEqDiff, Nat.reduceBEq, Nat.reduceAdd, Nat.reduceLeDiff, Nat.reduceSub, Nat.reduceMul, Int.reduceToNat, List.size_toArray, tyF, MM, bu0, ipure, kpure, tpure, sspure, kset, tset, ksnoc, tsnoc, Kind.av, Twist.sl, Twist.tr, Invar.av, w]
      simp only [beq_iff_eq, bne_iff_ne, ne_eq, beq_eq_false_iff_ne, bne_eq_false_iff_eq, decide_eq_true_eq, decide_eq_false_iff_not, Bool.not_eq_true', Bool.not_eq_false', Int.not_lt, Int.not_le, Bool.and_eq_true, Bool.or_eq_true, Bool.and_eq_false_iff, Bool.or_eq_false_iff, Decidable.not_not] at w
      have := mem_getD l k 0 hlt
      rw [w] at this
      simp [this]
    · simp -dsimp -implicitDefEqProofs (disch := first | omega | (simp only [lenr]; done) | (simp only [lenr]; omega)) only [↓amPre, amAll, ↓reduceIte, reduceCtorEq, Nat.reduceEqDiff, Nat.reduceBEq, Nat.reduceAdd, Nat.reduceLeDiff, Nat.reduceSub, Nat.reduceMul, Int.reduceToNat, List.size_toArray, tyF, MM, bu0, ipure, kpure, tpure, sspure, kset, tset, ksnoc, tsnoc, Kind.av, Twist.sl, Twist.tr, Invar.av, w, f5, f0, f1]
      simp only [beq_iff_eq, bne_iff_ne, ne_eq, beq_eq_false_iff_ne, bne_eq_false_iff_eq, decide_eq_true_eq, decide_eq_false_iff_not, Bool.not_eq_true', Bool.not_eq_false', Int.not_lt, Int.not_le, Bool.and_eq_true, Bool.or_eq_true, Bool.and_eq_false_iff, Bool.or_eq_false_iff, Decidable.not_not] at w
      repeat' (first | omega | rfl | exact i64c (by omega) | exact vic (by omega) | exact (mem_take_succ (d := 0) hlt).2 ⟨ek, w⟩ | apply And.intro)
  · have hke : k = l.length := by omega
    subst hke
    simp -dsimp -implicitDefEqProofs (disch := first | omega | (simp only [lenr]; done) | (simp only [lenr]; omega)) only [↓amPre, amAll, ↓reduceIte, reduceCtorEq, Nat.reduceEqDiff, Nat.reduceBEq, Nat.reduceAdd, Nat.reduceLeDiff, Nat.reduceSub, Nat.reduceMul, Int.reduceToNat, List.size_toArray, tyF, MM, bu0, ipure, kpure, tpure, sspure, kset, tset, ksnoc, tsnoc, Kind.av, Twist.sl, Twist.tr, Invar.av, f5, f0, f1]
    rw [List.take_length] at ek
    have : ¬ x ∈ l := fun q => ek x q rfl
    simp [this]
theorem sIsPerm (p : List Int) (hl : p.length ≤ 1099511627776) : SpecAt Try.prog 161 [isl p] (.bl (decide (isPerm p))) := by
  refine spec_of_awp (M := MM) (np := 1) (fz := true) mixed Try.func161 rfl rfl (by decide) rfl (Nat.le_refl _) (by decide +kernel) (.inr ⟨rfl, rfl⟩) trivial ?_
  simp -dsimp -implicitDefEqProofs (disch := first | omega | (simp only [lenr]; done) | (simp only [lenr]; omega)) only [↓amPre, amAll, ↓reduceIte, reduceCtorEq, Nat.reduceEqDiff, Nat.reduceBEq, Nat.reduceAdd, Nat.reduceLeDiff, Nat.reduceSub, Nat.reduceMul, Int.reduceToNat, List.size_toArray, tyF, MM, bu0, ipure, kpure, tpure, sspure, kset, tset, ksnoc, tsnoc, Kind.av, Twist.sl, Twist.tr, Invar.av]
  refine callP_of (inRange _ _ _) ?_
  cases w : within p.length 1 20 with
  | false =>
    simp -dsimp -implicitDefEqProofs (disch := first | omega | (simp only [lenr]; done) | (simp only [lenr]; omega)) only [↓amPre, amAll, ↓reduceIte, reduceCtorEq, Nat.reduceEqDiff, Nat.reduceBEq, Nat.reduceAdd, Nat.reduceLeDiff, Nat.reduceSub, Nat.reduceMul, Int.reduceToNat, List.size_toArray, tyF, MM, bu0, ipure, kpure, tpure, sspure, kset, tset, ksnoc, tsnoc, Kind.av, Twist.sl, Twist.tr, Invar.av, w]
    rw [within_not] at w
    have : ¬ isPerm p := fun h => by unfold isPerm at h; omega
    simp [this]
  | true =>
  rw [within_iff] at w
  simp -dsimp -implicitDefEqProofs (disch := first | omega | (simp only [lenr]; done) | (simp only [lenr]; omega)) only [↓amPre, amAll, ↓reduceIte, reduceCtorEq, Nat.reduceEqDiff, Nat.reduceBEq, Nat.reduceAdd, Nat.reduceLeDiff, Nat.reduceSub, Nat.reduceMul, Int.reduceToNat, List.size_toArray, tyF, MM, bu0, ipure, kpure, tpure, sspure, kset, tset, ksnoc, tsnoc, Kind.av, Twist.sl, Twist.tr, Invar.av, within_iff.2 w]
  refine awp_loop (fun k st => k ≤ p.length ∧ st.fr 4 = .i64 k ∧ st.fr 0 = isl p ∧ st.fr 3 = .i64 p.length ∧ (∀ x ∈ p.take k, 0 ≤ x ∧ x < p.length) ∧ (p.take k).Nodup) (p.length) ?_ ?_
  · simp -dsimp -implicitDefEqProofs (disch := first | omega | (simp only [lenr]; done) | (simp only [lenr]; omega)) only [↓amPre, amAll, ↓reduceIte, reduceCtorEq, Nat.reduceEqDiff, Nat.reduceBEq, Nat.reduceAdd, Nat.reduceLeDiff, Nat.reduceSub, Nat.reduceMul, Int.reduceToNat, List.size_toArray, tyF, MM, bu0, ipure, kpure, tpure, sspure, kset, tset, ksnoc, tsnoc, Kind.av, Twist.sl, Twist.tr, Invar.av]
    simp
  rintro k st _ ⟨hk, f4, f0, f3, ek⟩
  by_cases hlt : k < p.length
  · have hmem := mem_getD p k 0 hlt
    simp -dsimp -implicitDefEqProofs (disch := first | omega | (simp only [lenr]; done) | (simp only [lenr]; omega)) only [↓amPre, amAll, ↓reduceIte, reduceCtorEq, Nat.reduceEqDiff, Nat.reduceBEq, Nat.reduceAdd, Nat.reduceLeDiff, Nat.reduceSub, Nat.reduceMul, Int.reduceToNat, List.size_toArray, tyF, MM, bu0, ipure, kpure, tpure, sspure, kset, tset, ksnoc, tsnoc, Kind.av, Twist.sl, Twist.tr, Invar.av, f4, f0, f3]
    refine callP_of (inRange _ _ _) ?_
    cases w2 : within (p.getD k 0) 0 (p.length - 1) with
    | false =>
      simp -dsimp -implicitDefEqProofs (disch := first | omega | (simp only [lenr]; done) | (simp only [lenr]; omega)) only [↓amPre, amAll, ↓reduceIte, reduceCtorEq, Nat.reduceEqDiff, Nat.reduceBEq, Nat.reduceAdd, Nat.reduceLeDiff, Nat.reduceSub, Nat.reduceMul, Int.reduceToNat, List.size_toArray, tyF, MM, bu0, ipure, kpure, tpure, sspure, kset, tset, ksnoc, tsnoc, Kind.av, Twist.sl, Twist.tr, Invar.av, w2]
      rw [within_not] at w2
      have : ¬ isPerm p := fun h => by have := h.2.1 _ hmem; omega
      simp [this]
    | true =>
    simp -dsimp -implicitDefEqProofs (disch := first | omega | (simp only [lenr]; done) | (simp only [lenr]; omega)) only [↓amPre, amAll, ↓reduceIte, reduceCtorEq, Nat.reduceEqDiff, Nat.reduceBEq, Nat.reduceAdd, Nat.reduceLeDiff, Nat.reduceSub, Nat.reduceMul, Int.reduceToNat, List.size_toArray, tyF, MM, bu0, ipure, kpure, tpure, sspure, kset, tset, ksnoc, tsnoc, Kind.av, Twist.sl, Twist.tr, Invar.av, w2, f4, f0, f3]
    refine callP_of (containsInt _ _ (by simp; omega)) ?_
    have hs := take_succ_eq p k 0 hlt
    cases w3 : decide (p.getD k 0 ∈ p.take k) with
    | true =>
      simp -dsimp -implicitDefEqProofs (disch := first | omega | (simp only [lenr]; done) | (simp only [lenr]; omega)) only [↓amPre, amAll, ↓reduceIte, reduceCtorEq, Nat.reduceEqDiff, Nat.reduceBEq, Nat.reduceAdd, Nat.reduceLeDiff, Nat.reduceSub, Nat.reduceMul, Int.reduceToNat, List.size_toArray, tyF, MM, bu0, ipure, kpure, tpure, sspure, kset, tset, ksnoc, tsnoc, Kind.av, Twist.sl, Twist.tr, Invar.av, w3]
      simp only [beq_iff_eq, bne_iff_ne, ne_eq, beq_eq_false_iff_ne, bne_eq_false_iff_eq, decide_eq_true_eq, decide_eq_false_iff_not, Bool.not_eq_true', Bool.not_eq_false', Int.not_lt, Int.not_le, Bool.and_eq_true, Bool.or_eq_true, Bool.and_eq_false_iff, Bool.or_eq_false_iff, Decidable.not_not] at w3
      have : ¬ isPerm p := fun h => by
        have h2 := h.2.2
        have h3 : (p.take (k + 1)).Nodup := h2.sublist (List.take_sublist _ _)
        rw [hs, List.nodup_append] at h3
        exact h3.2.2 _ (by simpa using w3) _ (by simp) rfl
      simp [this]
    | false =>
      simp -dsimp -implicitDefEqProofs (disch := first | omega | (simp only [lenr]; done) | (simp only [lenr]; omega)) only [↓amPre, amAll, ↓reduceIte, reduceCtorEq, Nat.reduceEqDiff, Nat.reduceBEq, Nat.reduceAdd, Nat.reduceLeDiff, Nat.reduceSub, Nat.reduceMul, Int.reduceToNat, List.size_toArray, tyF, MM, bu0, ipure, kpure, tpure, sspure, kset, tset, ksnoc, tsnoc, Kind.av, Twist.sl, Twist.tr, Invar.av, w3, f4, f0, f3]
      simp only [decide_eq_false_iff_not] at w3
      rw [within_iff] at w2
      refine ⟨hlt, hlt, ?_, ?_⟩
      · rw [mem_take_succ (d := 0) hlt]; exact ⟨ek.1, by omega⟩
      · rw [hs, List.nodup_append]
        refine ⟨ek.2, by simp, ?_⟩
        intro a ha b hb e
        simp only [List.mem_singleton] at hb
        rw [e, hb] at ha; exact w3 ha
  · have hke : k = p.length := by omega
    subst hke
    rw [List.take_length] at ek
    simp -dsimp -implicitDefEqProofs (disch := first | omega | (simp only [lenr]; done) | (simp only [lenr]; omega)) only [↓amPre, amAll, ↓reduceIte, reduceCtorEq, Nat.reduceEqDiff, Nat.reduceBEq, Nat.reduceAdd, Nat.reduceLeDiff, Nat.reduceSub, Nat.reduceMul, Int.reduceToNat, List.size_toArray, tyF, MM, bu0, ipure, kpure, tpure, sspure, kset, tset, ksnoc, tsnoc, Kind.av, Twist.sl, Twist.tr, Invar.av, f4, f0, f3]
    have : isPerm p := ⟨by omega, ek.1, ek.2⟩
    simp [this]
theorem iIsPerm (p : List Int) (hl : p.length ≤ 1099511627776) : SpecAt Try.prog 212 [isl p] (.bl (decide (isPerm p))) := by
  refine spec_of_awp (M := MM) (np := 1) (fz := true) mixed Try.func212 rfl rfl (by decide) rfl (Nat.le_refl _) (by decide +kernel) (.inr ⟨rfl, rfl⟩) trivial ?_
  simp -dsimp -implicitDefEqProofs (disch := first | omega | (simp only [lenr]; done) | (simp only [lenr]; omega)) only [↓amPre, amAll, ↓reduceIte, reduceCtorEq, Nat.reduceEqDiff, Nat.reduceBEq, Nat.reduceAdd, Nat.reduceLeDiff, Nat.reduceSub, Nat.reduceMul, Int.reduceToNat, List.size_toArray, tyF, MM, bu0, ipure, kpure, tpure, sspure, kset, tset, ksnoc, tsnoc, Kind.av, Twist.sl, Twist.tr, Invar.av]
  refine callP_of (lenI _) ?_
  simp -dsimp -implicitDefEqProofs (disch := first | omega | (simp only [lenr]; done) | (simp only [lenr]; omega)) only [↓amPre, amAll, ↓reduceIte, reduceCtorEq, Nat.reduceEqDiff, Nat.reduceBEq, Nat.reduceAdd, Nat.reduceLeDiff, Nat.reduceSub, Nat.reduceMul, Int.reduceToNat, List.size_toArray, tyF, MM, bu0, ipure, kpure, tpure, sspure, kset, tset, ksnoc, tsnoc, Kind.av, Twist.sl, Twist.tr, Invar.av]
  refine callP_of (iwithin _ _ _) ?_
  cases w : within p.length 1 20 with
  | false =>
    simp -dsimp -implicitDefEqProofs (disch := first | omega | (simp only [lenr]; done) | (simp only [lenr]; omega)) only [↓amPre, amAll, ↓reduceIte, reduceCtorEq, Nat.reduceEqDiff, Nat.reduceBEq, Nat.reduceAdd, Nat.reduceLeDiff, Nat.reduceSub, Nat.reduceMul, Int.reduceToNat, List.size_toArray, tyF, MM, bu0, ipure, kpure, tpure, sspure, kset, tset, ksnoc, tsnoc, Kind.av, Twist.sl, Twist.tr, Invar.av, w]
    rw [within_not] at w
    have : ¬ isPerm p := fun h => by unfold isPerm at h; omega
    simp [this]
  | true =>
  rw [within_iff] at w
  simp -dsimp -implicitDefEqProofs (disch := first | omega | (simp only [lenr]; done) | (simp only [lenr]; omega)) only [↓amPre, amAll, ↓reduceIte, reduceCtorEq, Nat.reduceEqDiff, Nat.reduceBEq, Nat.reduceAdd, Nat.reduceLeDiff, Nat.reduceSub, Nat.reduceMul, Int.reduceToNat, List.size_toArray, tyF, MM, bu0, ipure, kpure, tpure, sspure, kset, tset, ksnoc, tsnoc, Kind.av, Twist.sl, Twist.tr, Invar.av, within_iff.2 w]
  refine awp_loop (fun k st => k ≤ p.length ∧ st.fr 12 = .i64 k ∧ st.fr 0 = isl p ∧ st.fr 10 = isl p ∧ st.fr 11 = .i64 p.length ∧ st.fr 3 = .i64 (mask (p.take k)) ∧ (∀ x ∈ p.take k, 0 ≤ x ∧ x < p.length)) (p.length) ?_ ?_
  · simp -dsimp -implicitDefEqProofs (disch := first | omega | (simp only [lenr]; done) | (simp only [lenr]; omega)) only [↓amPre, amAll, ↓reduceIte, reduceCtorEq, Nat.reduceEqDiff, Nat.reduceBEq, Nat.reduceAdd, Nat.reduceLeDiff, Nat.reduceSub, Nat.reduceMul, Int.reduceToNat, List.size_toArray, tyF, MM, bu0, ipure, kpure, tpure, sspure, kset, tset, ksnoc, tsnoc, Kind.av, Twist.sl, Twist.tr, Invar.av]
    simp [mask, maskN]
  rintro k st _ ⟨hk, f12, f0, f10, f11, f3, ek⟩
  by_cases hlt : k < p.length
  · have hmem := mem_getD p k 0 hlt
    simp -dsimp -implicitDefEqProofs (disch := first | omega | (simp only [lenr]; done) | (simp only [lenr]; omega)) only [↓amPre, amAll, ↓reduceIte, reduceCtorEq, Nat.reduceEqDiff, Nat.reduceBEq, Nat.reduceAdd, Nat.reduceLeDiff, Nat.reduceSub, Nat.reduceMul, Int.reduceToNat, List.size_toArray, tyF, MM, bu0, ipure, kpure, tpure, sspure, kset, tset, ksnoc, tsnoc, Kind.av, Twist.sl, Twist.tr, Invar.av, f12, f0, f10, f11, f3]
    refine callP_of (lenI _) ?_
    simp -dsimp -implicitDefEqProofs (disch := first | omega | (simp only [lenr]; done) | (simp only [lenr]; omega)) only [↓amPre, amAll, ↓reduceIte, reduceCtorEq, Nat.reduceEqDiff, Nat.reduceBEq, Nat.reduceAdd, Nat.reduceLeDiff, Nat.reduceSub, Nat.reduceMul, Int.reduceToNat, List.size_toArray, tyF, MM, bu0, ipure, kpure, tpure, sspure, kset, tset, ksnoc, tsnoc, Kind.av, Twist.sl, Twist.tr, Invar.av, f12, f0, f10, f11, f3]
    refine callP_of (iwithin _ _ _) ?_
    cases w2 : within (p.getD k 0) 0 (p.length - 1) with
    | false =>
      simp -dsimp -implicitDefEqProofs (disch := first | omega | (simp only [lenr]; done) | (simp only [lenr]; omega)) only [↓amPre, amAll, ↓reduceIte, reduceCtorEq, Nat.reduceEqDiff, Nat.reduceBEq, Nat.reduceAdd, Nat.reduceLeDiff, Nat.reduceSub, Nat.reduceMul, Int.reduceToNat, List.size_toArray, tyF, MM, bu0, ipure, kpure, tpure, sspure, kset, tset, ksnoc, tsnoc, Kind.av, Twist.sl, Twist.tr, Invar.av, w2]
      rw [within_not] at w2
      have : ¬ isPerm p := fun h => by have := h.2.1 _ hmem; omega
      simp [this]
    | true =>
    have w2' := within_iff.1 w2
    obtain ⟨n, hn⟩ : ∃ n : Nat, p.getD k 0 = n := ⟨(p.getD k 0).toNat, by omega⟩
    have hn20 : n < 20 := by omega
    have hp : (2:Nat) ^ n < 2 ^ 20 := Nat.pow_lt_pow_right (by decide) hn20
    have hsh : IntKind.i64.wrap (1 * 2 ^ (min (p.getD k 0).toNat 64)) = ((2 ^ n : Nat) : Int) := by
      have e2 : (2:Int) ^ n = ((2 ^ n : Nat) : Int) := by simp
      rw [hn, Int.toNat_natCast, Nat.min_eq_left (by omega), Int.one_mul, e2]
      generalize (2 ^ n : Nat) = m at hp ⊢
      exact wrap64_id (by omega)
    have hm1 := mask_lt (p.take k) 20 fun x hx => by have := ek x hx; omega
    have hm2 := mask_lt (p.take k) p.length ek
    have hor : bitsI .or .i64 (mask (p.take k) : Int) ((2 ^ n : Nat) : Int) = ((mask (p.take (k + 1)) : Nat) : Int) := by
      rw [bits_or _ _ (by omega) (by omega), take_succ_eq p k 0 hlt, mask_snoc, hn, Int.toNat_natCast]
    have hb : (IntKind.i64.bits) = 64 := rfl
    simp -dsimp -implicitDefEqProofs (disch := first | omega | (simp only [lenr]; done) | (simp only [lenr]; omega)) only [↓amPre, amAll, ↓reduceIte, reduceCtorEq, Nat.reduceEqDiff, Nat.reduceBEq, Nat.reduceAdd, Nat.reduceLeDiff, Nat.reduceSub, Nat.reduceMul, Int.reduceToNat, List.size_toArray, tyF, MM, bu0, ipure, kpure, tpure, sspure, kset, tset, ksnoc, tsnoc, Kind.av, Twist.sl, Twist.tr, Invar.av, w2, f12, f0, f10, f11, f3, hb, hsh, hor]
    refine ⟨hlt, hlt, ?_⟩
    rw [mem_take_succ (d := 0) hlt]; exact ⟨ek, by omega⟩
  · have hke : k = p.length := by omega
    subst hke
    rw [List.take_length] at ek f3
    have hp : (2:Nat) ^ p.length ≤ 2 ^ 20 := Nat.pow_le_pow_right (by decide) (by omega)
    have hsh : IntKind.i64.wrap (1 * 2 ^ (min p.length 64)) = ((2 ^ p.length : Nat) : Int) := by
      have e2 : (2:Int) ^ p.length = ((2 ^ p.length : Nat) : Int) := by simp
      rw [Nat.min_eq_left (by omega), Int.one_mul, e2]
      generalize (2 ^ p.length : Nat) = m at hp ⊢
      exact wrap64_id (by omega)
    have hwr : IntKind.i64.wrap (((2 ^ p.length : Nat) : Int) - 1) = ((2 ^ p.length : Nat) : Int) - 1 := by
      generalize (2 ^ p.length : Nat) = m at hp ⊢
      exact wrap64_id (by omega)
    have hb : (IntKind.i64.bits) = 64 := rfl
    simp -dsimp -implicitDefEqProofs (disch := first | omega | (simp only [lenr]; done) | (simp only [lenr]; omega)) only [↓amPre, amAll, ↓reduceIte, reduceCtorEq, Nat.reduceEqDiff, Nat.reduceBEq, Nat.reduceAdd, Nat.reduceLeDiff, Nat.reduceSub, Nat.reduceMul, Int.reduceToNat, List.size_toArray, tyF, MM, bu0, ipure, kpure, tpure, sspure, kset, tset, ksnoc, tsnoc, Kind.av, Twist.sl, Twist.tr, Invar.av, f12, f0, f10, f11, f3, hb, hsh, hwr]
    refine bl_eq ?_
    have h1 := mask_perm p ek
    have h2 : (0:Nat) < 2 ^ p.length := Nat.pow_pos (by decide)
    have h3 : isPerm p ↔ p.Nodup := ⟨fun h => h.2.2, fun h => ⟨by omega, ek, h⟩⟩
    simp only [beq_iff_eq, decide_eq_true_eq, h3, ← h1]
    generalize (2 ^ p.length : Nat) = m at h2 ⊢
    omega
end Go.AM
set_option maxRecDepth 8000
namespace Go.AM
open Go.Proofs
theorem kOk_of {k : Kind} (w1 : within k.c 1 20 = true) (w2 : within k.o 1 20 = true) : kOk k := ⟨within_iff.1 w1, within_iff.1 w2⟩
def fcI (l : List Kind) : Int := if ∀ k ∈ l, kOk k then facets l else 21
theorem ifaceletCount (l : List Kind) (hl : l.length ≤ 3) : SpecAt Try.prog 94 [ksl l] (.i64 (fcI l)) := by
  refine spec_of_awp (M := MM) (np := 1) (fz := true) mixed Try.func94 rfl rfl (by decide) rfl (Nat.le_refl _) (by decide +kernel) (.inr ⟨rfl, rfl⟩) trivial ?_
  simp -dsimp -implicitDefEqProofs (disch := first | omega | (simp only [lenr]; done) | (simp only [lenr]; omega)) only [↓amPre, amAll, ↓reduceIte, reduceCtorEq, Nat.reduceEqDiff, Nat.reduceBEq, Nat.reduceAdd, Nat.reduceLeDiff, Nat.reduceSub, Nat.reduceMul, Int.reduceToNat, List.size_toArray, tyF, MM, bu0, ipure, kpure, tpure, sspure, kset, tset, ksnoc, tsnoc, Kind.av, Twist.sl, Twist.tr, Invar.av]
  refine awp_loop (fun k st => k ≤ l.length ∧ st.fr 8 = .i64 k ∧ st.fr 7 = .i64 l.length ∧ st.fr 6 = ksl l ∧ st.fr 3 = .i64 (facets (l.take k)) ∧ ∀ x ∈ l.take k, kOk x) (l.length) ?_ ?_
  · simp -dsimp -implicitDefEqProofs (disch := first | omega | (simp only [lenr]; done) | (simp only [lenr]; omega)) only [↓amPre, amAll, ↓reduceIte, reduceCtorEq, Nat.reduceEqDiff, Nat.reduceBEq, Nat.reduceAdd, Nat.reduceLeDiff, Nat.reduceSub, Nat.reduceMul, Int.reduceToNat, List.size_toArray, tyF, MM, bu0, ipure, kpure, tpure, sspure, kset, tset, ksnoc, tsnoc, Kind.av, Twist.sl, Twist.tr, Invar.av]
    simp [facets]
  rintro k st _ ⟨hk, f8, f7, f6, f3, ek⟩
  by_cases hlt : k < l.length
  · have hmem := mem_getD l k default hlt
    have hb := facets_bound (l.take k) ek
    rw [List.length_take, Nat.min_eq_left (by omega)] at hb
    have ft := facets_take l k hlt
    simp -dsimp -implicitDefEqProofs (disch := first | omega | (simp only [lenr]; done) | (simp only [lenr]; omega)) only [↓amPre, amAll, ↓reduceIte, reduceCtorEq, Nat.reduceEqDiff, Nat.reduceBEq, Nat.reduceAdd, Nat.reduceLeDiff, Nat.reduceSub, Nat.reduceMul, Int.reduceToNat, List.size_toArray, tyF, MM, bu0, ipure, kpure, tpure, sspure, kset, tset, ksnoc, tsnoc, Kind.av, Twist.sl, Twist.tr, Invar.av, f8, f7, f6, f3]
    refine callP_of (iwithin _ _ _) ?_
    cases w1 : within (l.getD k default).c 1 20 with
    | false =>
      simp -dsimp -implicitDefEqProofs (disch := first | omega | (simp only [lenr]; done) | (simp only [lenr]; omega)) only [↓amPre, amAll, ↓reduceIte, reduceCtorEq, Nat.reduceEqDiff, Nat.reduceBEq, Nat.reduceAdd, Nat.reduceLeDiff, Nat.reduceSub, Nat.reduceMul, Int.reduceToNat, List.size_toArray, tyF, MM, bu0, ipure, kpure, tpure, sspure, kset, tset, ksnoc, tsnoc, Kind.av, Twist.sl, Twist.tr, Invar.av, w1]
      rw [fcI, if_neg]
      intro h; have := within_iff.2 (h _ hmem).1; rw [w1] at this; cases this
    | true =>
    simp -dsimp -implicitDefEqProofs (disch := first | omega | (simp only [lenr]; done) | (simp only [lenr]; omega)) only [↓amPre, amAll, ↓reduceIte, reduceCtorEq, Nat.reduceEqDiff, Nat.reduceBEq, Nat.reduceAdd, Nat.reduceLeDiff, Nat.reduceSub, Nat.reduceMul, Int.reduceToNat, List.size_toArray, tyF, MM, bu0, ipure, kpure, tpure, sspure, kset, tset, ksnoc, tsnoc, Kind.av, Twist.sl, Twist.tr, Invar.av, w1]
    refine callP_of (iwithin _ _ _) ?_
    cases w2 : within (l.getD k default).o 1 20 with
    | false =>
      simp -dsimp -implicitDefEqProofs (disch := first | omega | (simp only [lenr]; done) | (simp only [lenr]; omega)) only [↓amPre, amAll, ↓reduceIte, reduceCtorEq, Nat.reduceEqDiff, Nat.reduceBEq, Nat.reduceAdd, Nat.reduceLeDiff, Nat.reduceSub, Nat.reduceMul, Int.reduceToNat, List.size_toArray, tyF, MM, bu0, ipure, kpure, tpure, sspure, kset, tset, ksnoc, tsnoc, Kind.av, Twist.sl, Twist.tr, Invar.av, w1, w2]
      rw [fcI, if_neg]
      intro h; have := within_iff.2 (h _ hmem).2; rw [w2] at this; cases this
    | true =>
    have hk := kOk_of w1 w2
    have hp := kOk_prod hk
    simp -dsimp -implicitDefEqProofs (disch := first | omega | (simp only [lenr]; done) | (simp only [lenr]; omega)) only [↓amPre, amAll, ↓reduceIte, reduceCtorEq, Nat.reduceEqDiff, Nat.reduceBEq, Nat.reduceAdd, Nat.reduceLeDiff, Nat.reduceSub, Nat.reduceMul, Int.reduceToNat, List.size_toArray, tyF, MM, bu0, ipure, kpure, tpure, sspure, kset, tset, ksnoc, tsnoc, Kind.av, Twist.sl, Twist.tr, Invar.av, w1, w2, f8, f7, f6, f3, ← ft]
    repeat' (first | omega | rfl | exact i64c (by omega) | exact vic (by omega) | exact (mem_take_succ (d := default) hlt).2 ⟨ek, hk⟩ | apply And.intro)
  · have hke : k = l.length := by omega
    subst hke
    simp -dsimp -implicitDefEqProofs (disch := first | omega | (simp only [lenr]; done) | (simp only [lenr]; omega)) only [↓amPre, amAll, ↓reduceIte, reduceCtorEq, Nat.reduceEqDiff, Nat.reduceBEq, Nat.reduceAdd, Nat.reduceLeDiff, Nat.reduceSub, Nat.reduceMul, Int.reduceToNat, List.size_toArray, tyF, MM, bu0, ipure, kpure, tpure, sspure, kset, tset, ksnoc, tsnoc, Kind.av, Twist.sl, Twist.tr, Invar.av, f8, f7, f6, f3, List.take_length]
    rw [List.take_length] at ek
    rw [fcI, if_pos ek]
theorem sFacelets (l : List Kind) (hl : kindsOk l) : SpecAt Try.prog 107 [ksl l] (.i64 (facets l)) := by
  obtain ⟨⟨hl1, hl2⟩, hks, hf⟩ := hl
  refine spec_of_awp (M := MM) (np := 1) (fz := true) mixed Try.func107 rfl rfl (by decide) rfl (Nat.le_refl _) (by decide +kernel) (.inr ⟨rfl, rfl⟩) trivial ?_
  simp -dsimp -implicitDefEqProofs (disch := first | omega | (simp only [lenr]; done) | (simp only [lenr]; omega)) only [↓amPre, amAll, ↓reduceIte, reduceCtorEq, Nat.reduceEqDiff, Nat.reduceBEq, Nat.reduceAdd, Nat.reduceLeDiff, Nat.reduceSub, Nat.reduceMul, Int.reduceToNat, List.size_toArray, tyF, MM, bu0, ipure, kpure, tpure, sspure, kset, tset, ksnoc, tsnoc, Kind.av, Twist.sl, Twist.tr, Invar.av]
  refine awp_loop (fun k st => k ≤ l.length ∧ st.fr 4 = .i64 k ∧ st.fr 0 = ksl l ∧ st.fr 3 = .i64 (facets (l.take k))) (l.length) ?_ ?_
  · simp -dsimp -implicitDefEqProofs (disch := first | omega | (simp only [lenr]; done) | (simp only [lenr]; omega)) only [↓amPre, amAll, ↓reduceIte, reduceCtorEq, Nat.reduceEqDiff, Nat.reduceBEq, Nat.reduceAdd, Nat.reduceLeDiff, Nat.reduceSub, Nat.reduceMul, Int.reduceToNat, List.size_toArray, tyF, MM, bu0, ipure, kpure, tpure, sspure, kset, tset, ksnoc, tsnoc, Kind.av, Twist.sl, Twist.tr, Invar.av]
    simp [facets]
  rintro k st _ ⟨hk, f4, f0, f3⟩
  by_cases hlt : k < l.length
  · have hp := kOk_prod (hks _ (mem_getD l k default hlt))
    have hm := facets_mono l hks k
    have ft := facets_take l k hlt
    simp -dsimp -implicitDefEqProofs (disch := first | omega | (simp only [lenr]; done) | (simp only [lenr]; omega)) only [↓amPre, amAll, ↓reduceIte, reduceCtorEq, Nat.reduceEqDiff, Nat.reduceBEq, Nat.reduceAdd, Nat.reduceLeDiff, Nat.reduceSub, Nat.reduceMul, Int.reduceToNat, List.size_toArray, tyF, MM, bu0, ipure, kpure, tpure, sspure, kset, tset, ksnoc, tsnoc, Kind.av, Twist.sl, Twist.tr, Invar.av, f4, f0, f3, ← ft]
    repeat' (first | omega | rfl | exact i64c (by omega) | exact vic (by omega) | apply And.intro)
  · have hke : k = l.length := by omega
    subst hke
    simp -dsimp -implicitDefEqProofs (disch := first | omega | (simp only [lenr]; done) | (simp only [lenr]; omega)) only [↓amPre, amAll, ↓reduceIte, reduceCtorEq, Nat.reduceEqDiff, Nat.reduceBEq, Nat.reduceAdd, Nat.reduceLeDiff, Nat.reduceSub, Nat.reduceMul, Int.reduceToNat, List.size_toArray, tyF, MM, bu0, ipure, kpure, tpure, sspure, kset, tset, ksnoc, tsnoc, Kind.av, Twist.sl, Twist.tr, Invar.av, f4, f0, f3, List.take_length]
theorem iAreValidKinds (l : List Kind) (hl : l.length ≤ 1099511627776) : SpecAt Try.prog 98 [ksl l] (.bl (decide (kindsOk l))) := by
  refine spec_of_awp (M := MM) (np := 1) (fz := true) mixed Try.func98 rfl rfl (by decide) rfl (Nat.le_refl _) (by decide +kernel) (.inr ⟨rfl, rfl⟩) trivial ?_
  simp -dsimp -implicitDefEqProofs (disch := first | omega | (simp only [lenr]; done) | (simp only [lenr]; omega)) only [↓amPre, amAll, ↓reduceIte, reduceCtorEq, Nat.reduceEqDiff, Nat.reduceBEq, Nat.reduceAdd, Nat.reduceLeDiff, Nat.reduceSub, Nat.reduceMul, Int.reduceToNat, List.size_toArray, tyF, MM, bu0, ipure, kpure, tpure, sspure, kset, tset, ksnoc, tsnoc, Kind.av, Twist.sl, Twist.tr, Invar.av]
  refine callP_of (lenK _) ?_
  simp -dsimp -implicitDefEqProofs (disch := first | omega | (simp only [lenr]; done) | (simp only [lenr]; omega)) only [↓amPre, amAll, ↓reduceIte, reduceCtorEq, Nat.reduceEqDiff, Nat.reduceBEq, Nat.reduceAdd, Nat.reduceLeDiff, Nat.reduceSub, Nat.reduceMul, Int.reduceToNat, List.size_toArray, tyF, MM, bu0, ipure, kpure, tpure, sspure, kset, tset, ksnoc, tsnoc, Kind.av, Twist.sl, Twist.tr, Invar.av]
  refine callP_of (iwithin _ _ _) ?_
  cases w : within l.length 1 3 with
  | false =>
    simp -dsimp -implicitDefEqProofs (disch := first | omega | (simp only [lenr]; done) | (simp only [lenr]; omega)) only [↓amPre, amAll, ↓reduceIte, reduceCtorEq, Nat.reduceEqDiff, Nat.reduceBEq, Nat.reduceAdd, Nat.reduceLeDiff, Nat.reduceSub, Nat.reduceMul, Int.reduceToNat, List.size_toArray, tyF, MM, bu0, ipure, kpure, tpure, sspure, kset, tset, ksnoc, tsnoc, Kind.av, Twist.sl, Twist.tr, Invar.av, w]
    rw [within_not] at w
    have : ¬ kindsOk l := fun h => by have := h.1; omega
    simp [this]
  | true =>
  have w' := within_iff.1 w
  simp -dsimp -implicitDefEqProofs (disch := first | omega | (simp only [lenr]; done) | (simp only [lenr]; omega)) only [↓amPre, amAll, ↓reduceIte, reduceCtorEq, Nat.reduceEqDiff, Nat.reduceBEq, Nat.reduceAdd, Nat.reduceLeDiff, Nat.reduceSub, Nat.reduceMul, Int.reduceToNat, List.size_toArray, tyF, MM, bu0, ipure, kpure, tpure, sspure, kset, tset, ksnoc, tsnoc, Kind.av, Twist.sl, Twist.tr, Invar.av, w]
  refine callP_of (ifaceletCount _ (by omega)) ?_
  simp -dsimp -implicitDefEqProofs (disch := first | omega | (simp only [lenr]; done) | (simp only [lenr]; omega)) only [↓amPre, amAll, ↓reduceIte, reduceCtorEq, Nat.reduceEqDiff, Nat.reduceBEq, Nat.reduceAdd, Nat.reduceLeDiff, Nat.reduceSub, Nat.reduceMul, Int.reduceToNat, List.size_toArray, tyF, MM, bu0, ipure, kpure, tpure, sspure, kset, tset, ksnoc, tsnoc, Kind.av, Twist.sl, Twist.tr, Invar.av, w]
  refine bl_eq ?_
  simp only [decide_eq_true_eq]
  unfold fcI kindsOk
  split
  · rename_i h; exact ⟨fun q => ⟨by omega, h, q⟩, fun q => q.2.2⟩
  · rename_i h; exact ⟨fun q => by omega, fun q => (h q.2.1).elim⟩
theorem sAreValidKinds (l : List Kind) (hl : l.length ≤ 1099511627776) : SpecAt Try.prog 83 [ksl l] (.bl (decide (kindsOk l))) := by
  refine spec_of_awp (M := MM) (np := 1) (fz := true) mixed Try.func83 rfl rfl (by decide) rfl (Nat.le_refl _) (by decide +kernel) (.inr ⟨rfl, rfl⟩) trivial ?_
  simp -dsimp -implicitDefEqProofs (disch := first | omega | (simp only [lenr]; done) | (simp only [lenr]; omega)) only [↓amPre, amAll, ↓reduceIte, reduceCtorEq, Nat.reduceEqDiff, Nat.reduceBEq, Nat.reduceAdd, Nat.reduceLeDiff, Nat.reduceSub, Nat.reduceMul, Int.reduceToNat, List.size_toArray, tyF, MM, bu0, ipure, kpure, tpure, sspure, kset, tset, ksnoc, tsnoc, Kind.av, Twist.sl, Twist.tr, Invar.av]
  refine callP_of (inRange _ _ _) ?_
  cases w : within l.length 1 3 with
  | false =>
    simp -dsimp -implicitDefEqProofs (disch := first | omega | (simp only [lenr]; done) | (simp only [lenr]; omega)) only [↓amPre, amAll, ↓reduceIte, reduceCtorEq, Nat.reduceEqDiff, Nat.reduceBEq, Nat.reduceAdd, Nat.reduceLeDiff, Nat.reduceSub, Nat.reduceMul, Int.reduceToNat, List.size_toArray, tyF, MM, bu0, ipure, kpure, tpure, sspure, kset, tset, ksnoc, tsnoc, Kind.av, Twist.sl, Twist.tr, Invar.av, w]
    rw [within_not] at w
    have : ¬ kindsOk l := fun h => by have := h.1; omega
    simp [this]
  | true =>
  have w' := within_iff.1 w
  simp -dsimp -implicitDefEqProofs (disch := first | omega | (simp only [lenr]; done) | (simp only [lenr]; omega)) only [↓amPre, amAll, ↓reduceIte, reduceCtorEq, Nat.reduceEqDiff, Nat.reduceBEq, Nat.reduceAdd, Nat.reduceLeDiff, Nat.reduceSub, Nat.reduceMul, Int.reduceToNat, List.size_toArray, tyF, MM, bu0, ipure, kpure, tpure, sspure, kset, tset, ksnoc, tsnoc, Kind.av, Twist.sl, Twist.tr, Invar.av, w]
  refine awp_loop (fun k st => k ≤ l.length ∧ st.fr 4 = .i64 k ∧ st.fr 0 = ksl l ∧ st.fr 3 = .i64 (facets (l.take k)) ∧ ∀ x ∈ l.take k, kOk x) (l.length) ?_ ?_
  · simp -dsimp -implicitDefEqProofs (disch := first | omega | (simp only [lenr]; done) | (simp only [lenr]; omega)) only [↓amPre, amAll, ↓reduceIte, reduceCtorEq, Nat.reduceEqDiff, Nat.reduceBEq, Nat.reduceAdd, Nat.reduceLeDiff, Nat.reduceSub, Nat.reduceMul, Int.reduceToNat, List.size_toArray, tyF, MM, bu0, ipure, kpure, tpure, sspure, kset, tset, ksnoc, tsnoc, Kind.av, Twist.sl, Twist.tr, Invar.av]
    simp [facets]
  rintro k st _ ⟨hk, f4, f0, f3, ek⟩
  by_cases hlt : k < l.length
  · have hmem := mem_getD l k default hlt
    have hb := facets_bound (l.take k) ek
    rw [List.length_take, Nat.min_eq_left (by omega)] at hb
    have ft := facets_take l k hlt
    simp -dsimp -implicitDefEqProofs (disch := first | omega | (simp only [lenr]; done) | (simp only [lenr]; omega)) only [↓amPre, amAll, ↓reduceIte, reduceCtorEq, Nat.reduceEqDiff, Nat.reduceBEq, Nat.reduceAdd, Nat.reduceLeDiff, Nat.reduceSub, Nat.reduceMul, Int.reduceToNat, List.size_toArray, tyF, MM, bu0, ipure, kpure, tpure, sspure, kset, tset, ksnoc, tsnoc, Kind.av, Twist.sl, Twist.tr, Invar.av, f4, f0, f3]
    refine callP_of (inRange _ _ _) ?_
    cases w1 : within (l.getD k default).c 1 20 with
    | false =>
      simp -dsimp -implicitDefEqProofs (disch := first | omega | (simp only [lenr]; done) | (simp only [lenr]; omega)) only [↓amPre, amAll, ↓reduceIte, reduceCtorEq, Nat.reduceEqDiff, Nat.reduceBEq, Nat.reduceAdd, Nat.reduceLeDiff, Nat.reduceSub, Nat.reduceMul, Int.reduceToNat, List.size_toArray, tyF, MM, bu0, ipure, kpure, tpure, sspure, kset, tset, ksnoc, tsnoc, Kind.av, Twist.sl, Twist.tr, Invar.av, w1]
      have : ¬ kindsOk l := fun h => by have := within_iff.2 (h.2.1 _ hmem).1; rw [w1] at this; cases this
      simp [this]
    | true =>
    simp -dsimp -implicitDefEqProofs (disch := first | omega | (simp only [lenr]; done) | (simp only [lenr]; omega)) only [↓amPre, amAll, ↓reduceIte, reduceCtorEq, Nat.reduceEqDiff, Nat.reduceBEq, Nat.reduceAdd, Nat.reduceLeDiff, Nat.reduceSub, Nat.reduceMul, Int.reduceToNat, List.size_toArray, tyF, MM, bu0, ipure, kpure, tpure, sspure, kset, tset, ksnoc, tsnoc, Kind.av, Twist.sl, Twist.tr, Invar.av, w1, f4, f0, f3]
    refine callP_of (inRange _ _ _) ?_
    cases w2 : within (l.getD k default).o 1 20 with
    | false =>
      simp -dsimp -implicitDefEqProofs (disch := first | omega | (simp only [lenr]; done) | (simp only [lenr]; omega)) only [↓amPre, amAll, ↓reduceIte, reduceCtorEq, Nat.reduceEqDiff, Nat.reduceBEq, Nat.reduceAdd, Nat.reduceLeDiff, Nat.reduceSub, Nat.reduceMul, Int.reduceToNat, List.size_toArray, tyF, MM, bu0, ipure, kpure, tpure, sspure, kset, tset, ksnoc, tsnoc, Kind.av, Twist.sl, Twist.tr, Invar.av, w1, w2]
      have : ¬ kindsOk l := fun h => by have := within_iff.2 (h.2.1 _ hmem).2; rw [w2] at this; cases this
      simp [this]
    | true =>
    have hk := kOk_of w1 w2
    have hp := kOk_prod hk
    simp -dsimp -implicitDefEqProofs (disch := first | omega | (simp only [lenr]; done) | (simp only [lenr]; omega)) only [↓amPre, amAll, ↓reduceIte, reduceCtorEq, Nat.reduceEqDiff, Nat.reduceBEq, Nat.reduceAdd, Nat.reduceLeDiff, Nat.reduceSub, Nat.reduceMul, Int.reduceToNat, List.size_toArray, tyF, MM, bu0, ipure, kpure, tpure, sspure, kset, tset, ksnoc, tsnoc, Kind.av, Twist.sl, Twist.tr, Invar.av, w1, w2, f4, f0, f3, ← ft]
    repeat' (first | omega | rfl | exact i64c (by omega) | exact vic (by omega) | exact (mem_take_succ (d := default) hlt).2 ⟨ek, hk⟩ | apply And.intro)
  · have hke : k = l.length := by omega
    subst hke
    simp -dsimp -implicitDefEqProofs (disch := first | omega | (simp only [lenr]; done) | (simp only [lenr]; omega)) only [↓amPre, amAll, ↓reduceIte, reduceCtorEq, Nat.reduceEqDiff, Nat.reduceBEq, Nat.reduceAdd, Nat.reduceLeDiff, Nat.reduceSub, Nat.reduceMul, Int.reduceToNat, List.size_toArray, tyF, MM, bu0, ipure, kpure, tpure, sspure, kset, tset, ksnoc, tsnoc, Kind.av, Twist.sl, Twist.tr, Invar.av, f4, f0, f3, List.take_length]
    rw [List.take_length] at ek
    refine bl_eq ?_
    simp only [decide_eq_true_eq]
    unfold kindsOk
    exact ⟨fun q => ⟨by omega, ek, q⟩, fun q => q.2.2⟩
def stR (l : List Kind) : Int := if kindsOk l then stC l else 0
end Go.AM
set_option maxRecDepth 8000
namespace Go.AM
open Go.Proofs
def fidx (pr : Int → Bool) (l : List Int) : Int := match l.findIdx? pr with | some i => i | none => -1
theorem fidx_nonneg (pr : Int → Bool) (l : List Int) : 0 ≤ fidx pr l ↔ l.any pr = true := by
  unfold fidx
  split
  · rename_i i e
    rw [List.findIdx?_eq_some_iff_getElem] at e
    obtain ⟨hi, h1, _⟩ := e
    simp only [List.any_eq_true]
    exact ⟨fun _ => ⟨_, List.getElem_mem hi, h1⟩, fun _ => by omega⟩
  · rename_i e
    rw [List.findIdx?_eq_none_iff] at e
    simp only [List.any_eq_true]
    exact ⟨fun q => by omega, fun ⟨x, hx, hp⟩ => by rw [e x hx] at hp; cases hp⟩
theorem indexFunc (l : List Int) (g : FuncId) (caps : List AV) (pr : Int → Bool) (hM : MM g = []) (hb : AV.bearsL caps = false) (hv : ∀ mem, AV.views mem caps = caps) (h : ∀ x ∈ l, SpecAt Try.prog g ([.i64 x] ++ caps) (.bl (pr x))) (hl : l.length ≤ 1099511627776) :
    SpecAt Try.prog 218 [isl l, .fn g caps] (.i64 (fidx pr l)) := by
  unfold MM at hM
  refine spec_of_awp (M := MM) (np := 2) (fz := true) mixed Try.func218 rfl rfl (by decide) rfl (Nat.le_refl _) (by decide +kernel) (.inr ⟨rfl, rfl⟩) trivial ?_
  simp -dsimp -implicitDefEqProofs (disch := first | omega | (simp only [lenr]; done) | (simp only [lenr]; omega)) only [↓amPre, amAll, ↓reduceIte, reduceCtorEq, Nat.reduceEqDiff, Nat.reduceBEq, Nat.reduceAdd, Nat.reduceLeDiff, Nat.reduceSub, Nat.reduceMul, Int.reduceToNat, List.size_toArray, tyF, MM, bu0, ipure, kpure, tpure, sspure, kset, tset, ksnoc, tsnoc, Kind.av, Twist.sl, Twist.tr, Invar.av]
  refine awp_loop (fun k st => k ≤ l.length ∧ st.fr 8 = .i64 k ∧ st.fr 7 = .i64 l.length ∧ st.fr 0 = isl l ∧ st.fr 1 = .fn g caps ∧ ∀ x ∈ l.take k, pr x = false) (l.length) ?_ ?_
  · simp -dsimp -implicitDefEqProofs (disch := first | omega | (simp only [lenr]; done) | (simp only [lenr]; omega)) only [↓amPre, amAll, ↓reduceIte, reduceCtorEq, Nat.reduceEqDiff, Nat.reduceBEq, Nat.reduceAdd, Nat.reduceLeDiff, Nat.reduceSub, Nat.reduceMul, Int.reduceToNat, List.size_toArray, tyF, MM, bu0, ipure, kpure, tpure, sspure, kset, tset, ksnoc, tsnoc, Kind.av, Twist.sl, Twist.tr, Invar.av]
    simp
  rintro k st _ ⟨hk, f8, f7, f0, f1, ek⟩
  by_cases hlt : k < l.length
  · have hmem := mem_getD l k 0 hlt
    simp -dsimp -implicitDefEqProofs (disch := first | omega | (simp only [lenr]; done) | (simp only [lenr]; omega)) only [↓amPre, amAll, ↓reduceIte, reduceCtorEq, Nat.reduceEqDiff, Nat.reduceBEq, Nat.reduceAdd, Nat.reduceLeDiff, Nat.reduceSub, Nat.reduceMul, Int.reduceToNat, List.size_toArray, tyF, MM, bu0, ipure, kpure, tpure, sspure, kset, tset, ksnoc, tsnoc, Kind.av, Twist.sl, Twist.tr, Invar.av, f8, f7, f0, f1, hM, hb, hv]
    refine callP_of (h _ hmem) ?_
    cases w : pr (l.getD k 0) with
    | true =>
      simp -dsimp -implicitDefEqProofs (disch := first | omega | (simp only [lenr]; done) | (simp only [lenr]; omega)) only [↓amPre, amAll, ↓reduceIte, reduceCtorEq, Nat.reduceEqDiff, Nat.reduceBEq, Nat.reduceAdd, Nat.reduceLeDiff, Nat.reduceSub, Nat.reduceMul, Int.reduceToNat, List.size_toArray, tyF, MM, bu0, ipure, kpure, tpure, sspure, kset, tset, ksnoc, tsnoc, Kind.av, Twist.sl, Twist.tr, Invar.av, f8, f7, f0, f1, w]
      have : l.findIdx? pr = some k := by
        rw [List.findIdx?_eq_some_iff_getElem]
        refine ⟨hlt, by rw [← getD_eq l k 0 hlt]; exact w, fun j hj => ?_⟩
        have := ek (l[j]) (by rw [List.mem_take_iff_getElem]; exact ⟨j, by omega, rfl⟩)
        simpa using this
      rw [fidx, this]
    | false =>
      simp -dsimp -implicitDefEqProofs (disch := first | omega | (simp only [lenr]; done) | (simp only [lenr]; omega)) only [↓amPre, amAll, ↓reduceIte, reduceCtorEq, Nat.reduceEqDiff, Nat.reduceBEq, Nat.reduceAdd, Nat.reduceLeDiff, Nat.reduceSub, Nat.reduceMul, Int.reduceToNat, List.size_toArray, tyF, MM, bu0, ipure, kpure, tpure, sspure, kset, tset, ksnoc, tsnoc, Kind.av, Twist.sl, Twist.tr, Invar.av, f8, f7, f0, f1, w]
      repeat' (first | omega | rfl | exact i64c (by omega) | exact vic (by omega) | exact (mem_take_succ (d := 0) hlt).2 ⟨ek, w⟩ | apply And.intro)
  · have hke : k = l.length := by omega
    subst hke
    rw [List.take_length] at ek
    simp -dsimp -implicitDefEqProofs (disch := first | omega | (simp only [lenr]; done) | (simp only [lenr]; omega)) only [↓amPre, amAll, ↓reduceIte, reduceCtorEq, Nat.reduceEqDiff, Nat.reduceBEq, Nat.reduceAdd, Nat.reduceLeDiff, Nat.reduceSub, Nat.reduceMul, Int.reduceToNat, List.size_toArray, tyF, MM, bu0, ipure, kpure, tpure, sspure, kset, tset, ksnoc, tsnoc, Kind.av, Twist.sl, Twist.tr, Invar.av, f8, f7, f0, f1]
    have : l.findIdx? pr = none := by rw [List.findIdx?_eq_none_iff]; exact ek
    rw [fidx, this]
theorem containsFunc (l : List Int) (g : FuncId) (caps : List AV) (pr : Int → Bool) (hM : MM g = []) (hb : AV.bearsL caps = false) (hv : ∀ mem, AV.views mem caps = caps) (h : ∀ x ∈ l, SpecAt Try.prog g ([.i64 x] ++ caps) (.bl (pr x))) (hl : l.length ≤ 1099511627776) :
    SpecAt Try.prog 156 [isl l, .fn g caps] (.bl (l.any pr)) := by
  refine spec_of_awp (M := MM) (np := 2) (fz := true) mixed Try.func156 rfl rfl (by decide) rfl (Nat.le_refl _) (by decide +kernel) (.inr ⟨rfl, rfl⟩) trivial ?_
  simp -dsimp -implicitDefEqProofs (disch := first | omega | (simp only [lenr]; done) | (simp only [lenr]; omega)) only [↓amPre, amAll, ↓reduceIte, reduceCtorEq, Nat.reduceEqDiff, Nat.reduceBEq, Nat.reduceAdd, Nat.reduceLeDiff, Nat.reduceSub, Nat.reduceMul, Int.reduceToNat, List.size_toArray, tyF, MM, bu0, ipure, kpure, tpure, sspure, kset, tset, ksnoc, tsnoc, Kind.av, Twist.sl, Twist.tr, Invar.av, hb, hv]
  refine callP_of (indexFunc l g caps pr hM hb hv h hl) ?_
  simp -dsimp -implicitDefEqProofs (disch := first | omega | (simp only [lenr]; done) | (simp only [lenr]; omega)) only [↓amPre, amAll, ↓reduceIte, reduceCtorEq, Nat.reduceEqDiff, Nat.reduceBEq, Nat.reduceAdd, Nat.reduceLeDiff, Nat.reduceSub, Nat.reduceMul, Int.reduceToNat, List.size_toArray, tyF, MM, bu0, ipure, kpure, tpure, sspure, kset, tset, ksnoc, tsnoc, Kind.av, Twist.sl, Twist.tr, Invar.av]
  refine bl_eq ?_
  simp only [decide_eq_true_eq, fidx_nonneg]
theorem isTwist1 (x c o : Int) (ho : 0 ≤ o) (ho1 : o ≤ 20) : SpecAt Try.prog 227 [.i64 x, .ep [.i64 c, .i64 o]] (.bl (!within x 0 (o - 1))) := by
  refine spec_of_awp (M := MM) (np := 2) (fz := true) mixed Try.func227 rfl rfl (by decide) rfl (Nat.le_refl _) (by decide +kernel) (.inr ⟨rfl, rfl⟩) trivial ?_
  simp -dsimp -implicitDefEqProofs (disch := first | omega | (simp only [lenr]; done) | (simp only [lenr]; omega)) only [↓amPre, amAll, ↓reduceIte, reduceCtorEq, Nat.reduceEqDiff, Nat.reduceBEq, Nat.reduceAdd, Nat.reduceLeDiff, Nat.reduceSub, Nat.reduceMul, Int.reduceToNat, List.size_toArray, tyF, MM, bu0, ipure, kpure, tpure, sspure, kset, tset, ksnoc, tsnoc, Kind.av, Twist.sl, Twist.tr, Invar.av]
  refine callP_of (iwithin _ _ _) ?_
  simp -dsimp -implicitDefEqProofs (disch := first | omega | (simp only [lenr]; done) | (simp only [lenr]; omega)) only [↓amPre, amAll, ↓reduceIte, reduceCtorEq, Nat.reduceEqDiff, Nat.reduceBEq, Nat.reduceAdd, Nat.reduceLeDiff, Nat.reduceSub, Nat.reduceMul, Int.reduceToNat, List.size_toArray, tyF, MM, bu0, ipure, kpure, tpure, sspure, kset, tset, ksnoc, tsnoc, Kind.av, Twist.sl, Twist.tr, Invar.av]
theorem isTwist (k : Kind) (t : Twist) (hk : kOk k) (h1 : t.to.length ≤ 1099511627776) (h2 : t.by'.length ≤ 1099511627776) : SpecAt Try.prog 182 [k.av, t.sl] (.bl (decide (twOk k t))) := by
  refine spec_of_awp (M := MM) (np := 2) (fz := true) mixed Try.func182 rfl rfl (by decide) rfl (Nat.le_refl _) (by decide +kernel) (.inr ⟨rfl, rfl⟩) trivial ?_
  simp -dsimp -implicitDefEqProofs (disch := first | omega | (simp only [lenr]; done) | (simp only [lenr]; omega)) only [↓amPre, amAll, ↓reduceIte, reduceCtorEq, Nat.reduceEqDiff, Nat.reduceBEq, Nat.reduceAdd, Nat.reduceLeDiff, Nat.reduceSub, Nat.reduceMul, Int.reduceToNat, List.size_toArray, tyF, MM, bu0, ipure, kpure, tpure, sspure, kset, tset, ksnoc, tsnoc, Kind.av, Twist.sl, Twist.tr, Invar.av]
  refine callP_of (lenI _) ?_
  have fin : ∀ b : Bool, (b = true ↔ twOk k t) → Value.bool b = Value.bool (decide (twOk k t)) := fun b h => bl_eq (by rw [h, decide_eq_true_iff])
  by_cases c1 : (t.to.length : Int) = k.c
  · simp -dsimp -implicitDefEqProofs (disch := first | omega | (simp only [lenr]; done) | (simp only [lenr]; omega)) only [↓amPre, amAll, ↓reduceIte, reduceCtorEq, Nat.reduceEqDiff, Nat.reduceBEq, Nat.reduceAdd, Nat.reduceLeDiff, Nat.reduceSub, Nat.reduceMul, Int.reduceToNat, List.size_toArray, tyF, MM, bu0, ipure, kpure, tpure, sspure, kset, tset, ksnoc, tsnoc, Kind.av, Twist.sl, Twist.tr, Invar.av, eq_true c1]
    refine callP_of (iIsPerm _ h1) ?_
    by_cases c2 : isPerm t.to
    · simp -dsimp -implicitDefEqProofs (disch := first | omega | (simp only [lenr]; done) | (simp only [lenr]; omega)) only [↓amPre, amAll, ↓reduceIte, reduceCtorEq, Nat.reduceEqDiff, Nat.reduceBEq, Nat.reduceAdd, Nat.reduceLeDiff, Nat.reduceSub, Nat.reduceMul, Int.reduceToNat, List.size_toArray, tyF, MM, bu0, ipure, kpure, tpure, sspure, kset, tset, ksnoc, tsnoc, Kind.av, Twist.sl, Twist.tr, Invar.av, eq_true c1, c2]
      refine callP_of (lenI _) ?_
      by_cases c3 : (t.by'.length : Int) = k.c
      · simp -dsimp -implicitDefEqProofs (disch := first | omega | (simp only [lenr]; done) | (simp only [lenr]; omega)) only [↓amPre, amAll, ↓reduceIte, reduceCtorEq, Nat.reduceEqDiff, Nat.reduceBEq, Nat.reduceAdd, Nat.reduceLeDiff, Nat.reduceSub, Nat.reduceMul, Int.reduceToNat, List.size_toArray, tyF, MM, bu0, ipure, kpure, tpure, sspure, kset, tset, ksnoc, tsnoc, Kind.av, Twist.sl, Twist.tr, Invar.av, eq_true c1, c2, eq_true c3]
        refine callP_of (containsFunc t.by' _ _ (fun x => !within x 0 (k.o - 1)) rfl rfl (fun _ => rfl) (fun x _ => isTwist1 x k.c k.o (by have := hk.2; omega) hk.2.2) h2) ?_
        simp -dsimp -implicitDefEqProofs (disch := first | omega | (simp only [lenr]; done) | (simp only [lenr]; omega)) only [↓amPre, amAll, ↓reduceIte, reduceCtorEq, Nat.reduceEqDiff, Nat.reduceBEq, Nat.reduceAdd, Nat.reduceLeDiff, Nat.reduceSub, Nat.reduceMul, Int.reduceToNat, List.size_toArray, tyF, MM, bu0, ipure, kpure, tpure, sspure, kset, tset, ksnoc, tsnoc, Kind.av, Twist.sl, Twist.tr, Invar.av, eq_true c1, c2, eq_true c3]
        refine fin _ ?_
        simp only [Bool.not_eq_true', List.any_eq_false, Bool.not_eq_true, Bool.not_eq_false', Bool.not_eq_false, within_iff, twOk, c1, c2, c3, true_and]
        exact ⟨fun q x hx => by have := q x hx; omega, fun q x hx => by have := q x hx; omega⟩
      · simp -dsimp -implicitDefEqProofs (disch := first | omega | (simp only [lenr]; done) | (simp only [lenr]; omega)) only [↓amPre, amAll, ↓reduceIte, reduceCtorEq, Nat.reduceEqDiff, Nat.reduceBEq, Nat.reduceAdd, Nat.reduceLeDiff, Nat.reduceSub, Nat.reduceMul, Int.reduceToNat, List.size_toArray, tyF, MM, bu0, ipure, kpure, tpure, sspure, kset, tset, ksnoc, tsnoc, Kind.av, Twist.sl, Twist.tr, Invar.av, eq_true c1, c2, eq_false c3]
        refine fin _ ?_
        simp only [twOk, c3, false_and, and_false, reduceCtorEq]
    · simp -dsimp -implicitDefEqProofs (disch := first | omega | (simp only [lenr]; done) | (simp only [lenr]; omega)) only [↓amPre, amAll, ↓reduceIte, reduceCtorEq, Nat.reduceEqDiff, Nat.reduceBEq, Nat.reduceAdd, Nat.reduceLeDiff, Nat.reduceSub, Nat.reduceMul, Int.reduceToNat, List.size_toArray, tyF, MM, bu0, ipure, kpure, tpure, sspure, kset, tset, ksnoc, tsnoc, Kind.av, Twist.sl, Twist.tr, Invar.av, eq_true c1, c2]
      refine fin _ ?_
      simp only [twOk, c2, false_and, and_false, reduceCtorEq]
  · simp -dsimp -implicitDefEqProofs (disch := first | omega | (simp only [lenr]; done) | (simp only [lenr]; omega)) only [↓amPre, amAll, ↓reduceIte, reduceCtorEq, Nat.reduceEqDiff, Nat.reduceBEq, Nat.reduceAdd, Nat.reduceLeDiff, Nat.reduceSub, Nat.reduceMul, Int.reduceToNat, List.size_toArray, tyF, MM, bu0, ipure, kpure, tpure, sspure, kset, tset, ksnoc, tsnoc, Kind.av, Twist.sl, Twist.tr, Invar.av, eq_false c1]
    refine fin _ ?_
    simp only [twOk, c1, false_and, and_false, reduceCtorEq]
theorem sValidTwist (k : Kind) (t : Twist) (hk : kOk k) (h1 : t.to.length ≤ 1099511627776) (h2 : t.by'.length ≤ 1099511627776) : SpecAt Try.prog 175 [k.av, t.sl] (.bl (decide (twOk k t))) := by
  have hk2 := hk.2
  refine spec_of_awp (M := MM) (np := 2) (fz := true) mixed Try.func175 rfl rfl (by decide) rfl (Nat.le_refl _) (by decide +kernel) (.inr ⟨rfl, rfl⟩) trivial ?_
  simp -dsimp -implicitDefEqProofs (disch := first | omega | (simp only [lenr]; done) | (simp only [lenr]; omega)) only [↓amPre, amAll, ↓reduceIte, reduceCtorEq, Nat.reduceEqDiff, Nat.reduceBEq, Nat.reduceAdd, Nat.reduceLeDiff, Nat.reduceSub, Nat.reduceMul, Int.reduceToNat, List.size_toArray, tyF, MM, bu0, ipure, kpure, tpure, sspure, kset, tset, ksnoc, tsnoc, Kind.av, Twist.sl, Twist.tr, Invar.av]
  have fin : ∀ b : Bool, (b = true ↔ twOk k t) → Value.bool b = Value.bool (decide (twOk k t)) := fun b h => bl_eq (by rw [h, decide_eq_true_iff])
  by_cases c1 : (t.to.length : Int) = k.c
  · by_cases c3 : (t.by'.length : Int) = k.c
    · simp -dsimp -implicitDefEqProofs (disch := first | omega | (simp only [lenr]; done) | (simp only [lenr]; omega)) only [↓amPre, amAll, ↓reduceIte, reduceCtorEq, Nat.reduceEqDiff, Nat.reduceBEq, Nat.reduceAdd, Nat.reduceLeDiff, Nat.reduceSub, Nat.reduceMul, Int.reduceToNat, List.size_toArray, tyF, MM, bu0, ipure, kpure, tpure, sspure, kset, tset, ksnoc, tsnoc, Kind.av, Twist.sl, Twist.tr, Invar.av, ne_false c1, ne_false c3]
      refine callP_of (sIsPerm _ h1) ?_
      by_cases c2 : isPerm t.to
      · simp -dsimp -implicitDefEqProofs (disch := first | omega | (simp only [lenr]; done) | (simp only [lenr]; omega)) only [↓amPre, amAll, ↓reduceIte, reduceCtorEq, Nat.reduceEqDiff, Nat.reduceBEq, Nat.reduceAdd, Nat.reduceLeDiff, Nat.reduceSub, Nat.reduceMul, Int.reduceToNat, List.size_toArray, tyF, MM, bu0, ipure, kpure, tpure, sspure, kset, tset, ksnoc, tsnoc, Kind.av, Twist.sl, Twist.tr, Invar.av, c2]
        refine awp_loop (fun j st => j ≤ t.by'.length ∧ st.fr 5 = .i64 j ∧ st.fr 2 = .loc 2 [] 0 0 ∧ st.fr 3 = .loc 3 [] 0 0 ∧ st.mem 2 = some (.pt 2 k.av) ∧ st.mem 3 = some (.pt 2 (.agg [isl t.to, isl t.by'])) ∧ ∀ x ∈ t.by'.take j, 0 ≤ x ∧ x < k.o) (t.by'.length) ?_ ?_
        · simp -dsimp -implicitDefEqProofs (disch := first | omega | (simp only [lenr]; done) | (simp only [lenr]; omega)) only [↓amPre, amAll, ↓reduceIte, reduceCtorEq, Nat.reduceEqDiff, Nat.reduceBEq, Nat.reduceAdd, Nat.reduceLeDiff, Nat.reduceSub, Nat.reduceMul, Int.reduceToNat, List.size_toArray, tyF, MM, bu0, ipure, kpure, tpure, sspure, kset, tset, ksnoc, tsnoc, Kind.av, Twist.sl, Twist.tr, Invar.av]
          simp
        rintro j st _ ⟨hj, f5, f2, f3, m2, m3, ej⟩
        by_cases hlt : j < t.by'.length
        · simp -dsimp -implicitDefEqProofs (disch := first | omega | (simp only [lenr]; done) | (simp only [lenr]; omega)) only [↓amPre, amAll, ↓reduceIte, reduceCtorEq, Nat.reduceEqDiff, Nat.reduceBEq, Nat.reduceAdd, Nat.reduceLeDiff, Nat.reduceSub, Nat.reduceMul, Int.reduceToNat, List.size_toArray, tyF, MM, bu0, ipure, kpure, tpure, sspure, kset, tset, ksnoc, tsnoc, Kind.av, Twist.sl, Twist.tr, Invar.av, f5, f2, f3, m2, m3]
          refine callP_of (inRange _ _ _) ?_
          cases w : within (t.by'.getD j 0) 0 (k.o - 1) with
          | false =>
            simp -dsimp -implicitDefEqProofs (disch := first | omega | (simp only [lenr]; done) | (simp only [lenr]; omega)) only [↓amPre, amAll, ↓reduceIte, reduceCtorEq, Nat.reduceEqDiff, Nat.reduceBEq, Nat.reduceAdd, Nat.reduceLeDiff, Nat.reduceSub, Nat.reduceMul, Int.reduceToNat, List.size_toArray, tyF, MM, bu0, ipure, kpure, tpure, sspure, kset, tset, ksnoc, tsnoc, Kind.av, Twist.sl, Twist.tr, Invar.av, w]
            refine fin _ ?_
            rw [within_not] at w
            simp only [reduceCtorEq, false_iff]
            intro q; have := q.2.2.2 _ (mem_getD _ j 0 hlt); omega
          | true =>
            rw [within_iff] at w
            simp -dsimp -implicitDefEqProofs (disch := first | omega | (simp only [lenr]; done) | (simp only [lenr]; omega)) only [↓amPre, amAll, ↓reduceIte, reduceCtorEq, Nat.reduceEqDiff, Nat.reduceBEq, Nat.reduceAdd, Nat.reduceLeDiff, Nat.reduceSub, Nat.reduceMul, Int.reduceToNat, List.size_toArray, tyF, MM, bu0, ipure, kpure, tpure, sspure, kset, tset, ksnoc, tsnoc, Kind.av, Twist.sl, Twist.tr, Invar.av, f5, f2, f3, m2, m3, within_iff.2 w]
            repeat' (first | omega | rfl | exact i64c (by omega) | exact vic (by omega) | exact (mem_take_succ (d := 0) hlt).2 ⟨ej, by omega⟩ | apply And.intro)
        · have hje : j = t.by'.length := by omega
          subst hje
          rw [List.take_length] at ej
          simp -dsimp -implicitDefEqProofs (disch := first | omega | (simp only [lenr]; done) | (simp only [lenr]; omega)) only [↓amPre, amAll, ↓reduceIte, reduceCtorEq, Nat.reduceEqDiff, Nat.reduceBEq, Nat.reduceAdd, Nat.reduceLeDiff, Nat.reduceSub, Nat.reduceMul, Int.reduceToNat, List.size_toArray, tyF, MM, bu0, ipure, kpure, tpure, sspure, kset, tset, ksnoc, tsnoc, Kind.av, Twist.sl, Twist.tr, Invar.av, f5, f2, f3, m2, m3]
          refine fin _ ?_
          simp only [true_iff]
          exact ⟨c1, c3, c2, ej⟩
      · simp -dsimp -implicitDefEqProofs (disch := first | omega | (simp only [lenr]; done) | (simp only [lenr]; omega)) only [↓amPre, amAll, ↓reduceIte, reduceCtorEq, Nat.reduceEqDiff, Nat.reduceBEq, Nat.reduceAdd, Nat.reduceLeDiff, Nat.reduceSub, Nat.reduceMul, Int.reduceToNat, List.size_toArray, tyF, MM, bu0, ipure, kpure, tpure, sspure, kset, tset, ksnoc, tsnoc, Kind.av, Twist.sl, Twist.tr, Invar.av, c2]
        refine fin _ ?_
        simp only [twOk, c2, false_and, and_false, reduceCtorEq]
    · simp -dsimp -implicitDefEqProofs (disch := first | omega | (simp only [lenr]; done) | (simp only [lenr]; omega)) only [↓amPre, amAll, ↓reduceIte, reduceCtorEq, Nat.reduceEqDiff, Nat.reduceBEq, Nat.reduceAdd, Nat.reduceLeDiff, Nat.reduceSub, Nat.reduceMul, Int.reduceToNat, List.size_toArray, tyF, MM, bu0, ipure, kpure, tpure, sspure, kset, tset, ksnoc, tsnoc, Kind.av, Twist.sl, Twist.tr, Invar.av, ne_false c1, ne_true c3]
      refine fin _ ?_
      simp only [twOk, c3, false_and, and_false, reduceCtorEq]
  · simp -dsimp -implicitDefEqProofs (disch := first | omega | (simp only [lenr]; done) | (simp only [lenr]; omega)) only [↓amPre, amAll, ↓reduceIte, reduceCtorEq, Nat.reduceEqDiff, Nat.reduceBEq, Nat.reduceAdd, Nat.reduceLeDiff, Nat.reduceSub, Nat.reduceMul, Int.reduceToNat, List.size_toArray, tyF, MM, bu0, ipure, kpure, tpure, sspure, kset, tset, ksnoc, tsnoc, Kind.av, Twist.sl, Twist.tr, Invar.av, ne_true c1]
    refine fin _ ?_
    simp only [twOk, c1, false_and, and_false, reduceCtorEq]
theorem iIsPieceState (ks : List Kind) (s : List Twist) (h1 : ks.length ≤ 1099511627776) (h2 : s.length ≤ 1099511627776) (h3 : ∀ t ∈ s, t.to.length ≤ 1099511627776 ∧ t.by'.length ≤ 1099511627776) : SpecAt Try.prog 92 [ksl ks, tsl s] (.bl (decide (psOk ks s))) := by
  refine spec_of_awp (M := MM) (np := 2) (fz := true) mixed Try.func92 rfl rfl (by decide) rfl (Nat.le_refl _) (by decide +kernel) (.inr ⟨rfl, rfl⟩) trivial ?_
  simp -dsimp -implicitDefEqProofs (disch := first | omega | (simp only [lenr]; done) | (simp only [lenr]; omega)) only [↓amPre, amAll, ↓reduceIte, reduceCtorEq, Nat.reduceEqDiff, Nat.reduceBEq, Nat.reduceAdd, Nat.reduceLeDiff, Nat.reduceSub, Nat.reduceMul, Int.reduceToNat, List.size_toArray, tyF, MM, bu0, ipure, kpure, tpure, sspure, kset, tset, ksnoc, tsnoc, Kind.av, Twist.sl, Twist.tr, Invar.av]
  refine callP_of (iAreValidKinds _ h1) ?_
  have fin : ∀ b : Bool, (b = true ↔ psOk ks s) → Value.bool b = Value.bool (decide (psOk ks s)) := fun b h => bl_eq (by rw [h, decide_eq_true_iff])
  by_cases c1 : kindsOk ks
  · by_cases c2 : (s.length : Int) = ks.length
    · have c2' : s.length = ks.length := by omega
      simp -dsimp -implicitDefEqProofs (disch := first | omega | (simp only [lenr]; done) | (simp only [lenr]; omega)) only [↓amPre, amAll, ↓reduceIte, reduceCtorEq, Nat.reduceEqDiff, Nat.reduceBEq, Nat.reduceAdd, Nat.reduceLeDiff, Nat.reduceSub, Nat.reduceMul, Int.reduceToNat, List.size_toArray, tyF, MM, bu0, ipure, kpure, tpure, sspure, kset, tset, ksnoc, tsnoc, Kind.av, Twist.sl, Twist.tr, Invar.av, c1, ne_false c2]
      refine awp_loop (fun k st => k ≤ ks.length ∧ st.fr 19 = .i64 k ∧ st.fr 18 = .i64 ks.length ∧ st.fr 17 = ksl ks ∧ st.fr 1 = tsl s ∧ ∀ i, i < k → twOk (ks.getD i default) (s.getD i default)) (ks.length) ?_ ?_
      · simp -dsimp -implicitDefEqProofs (disch := first | omega | (simp only [lenr]; done) | (simp only [lenr]; omega)) only [↓amPre, amAll, ↓reduceIte, reduceCtorEq, Nat.reduceEqDiff, Nat.reduceBEq, Nat.reduceAdd, Nat.reduceLeDiff, Nat.reduceSub, Nat.reduceMul, Int.reduceToNat, List.size_toArray, tyF, MM, bu0, ipure, kpure, tpure, sspure, kset, tset, ksnoc, tsnoc, Kind.av, Twist.sl, Twist.tr, Invar.av]
        simp
      rintro k st _ ⟨hk, f19, f18, f17, f1, ek⟩
      by_cases hlt : k < ks.length
      · obtain ⟨e1, e2⟩ := h3 _ (mem_getD s k default (by omega))
        simp -dsimp -implicitDefEqProofs (disch := first | omega | (simp only [lenr]; done) | (simp only [lenr]; omega)) only [↓amPre, amAll, ↓reduceIte, reduceCtorEq, Nat.reduceEqDiff, Nat.reduceBEq, Nat.reduceAdd, Nat.reduceLeDiff, Nat.reduceSub, Nat.reduceMul, Int.reduceToNat, List.size_toArray, tyF, MM, bu0, ipure, kpure, tpure, sspure, kset, tset, ksnoc, tsnoc, Kind.av, Twist.sl, Twist.tr, Invar.av, f19, f18, f17, f1]
        refine callP_of (isTwist (ks.getD k default) (s.getD k default) (c1.2.1 _ (mem_getD ks k default hlt)) e1 e2) ?_
        by_cases w : twOk (ks.getD k default) (s.getD k default)
        · simp -dsimp -implicitDefEqProofs (disch := first | omega | (simp only [lenr]; done) | (simp only [lenr]; omega)) only [↓amPre, amAll, ↓reduceIte, reduceCtorEq, Nat.reduceEqDiff, Nat.reduceBEq, Nat.reduceAdd, Nat.reduceLeDiff, Nat.reduceSub, Nat.reduceMul, Int.reduceToNat, List.size_toArray, tyF, MM, bu0, ipure, kpure, tpure, sspure, kset, tset, ksnoc, tsnoc, Kind.av, Twist.sl, Twist.tr, Invar.av, f19, f18, f17, f1, w]
          refine ⟨hlt, hlt, fun i hi => ?_⟩
          by_cases e : i = k
          · subst e; exact w
          · exact ek i (by omega)
        · simp -dsimp -implicitDefEqProofs (disch := first | omega | (simp only [lenr]; done) | (simp only [lenr]; omega)) only [↓amPre, amAll, ↓reduceIte, reduceCtorEq, Nat.reduceEqDiff, Nat.reduceBEq, Nat.reduceAdd, Nat.reduceLeDiff, Nat.reduceSub, Nat.reduceMul, Int.reduceToNat, List.size_toArray, tyF, MM, bu0, ipure, kpure, tpure, sspure, kset, tset, ksnoc, tsnoc, Kind.av, Twist.sl, Twist.tr, Invar.av, f19, f18, f17, f1, w]
          refine fin _ ?_
          simp only [reduceCtorEq, false_iff]
          intro q; exact w (q.2.2 k hlt)
      · have hke : k = ks.length := by omega
        subst hke
        simp -dsimp -implicitDefEqProofs (disch := first | omega | (simp only [lenr]; done) | (simp only [lenr]; omega)) only [↓amPre, amAll, ↓reduceIte, reduceCtorEq, Nat.reduceEqDiff, Nat.reduceBEq, Nat.reduceAdd, Nat.reduceLeDiff, Nat.reduceSub, Nat.reduceMul, Int.reduceToNat, List.size_toArray, tyF, MM, bu0, ipure, kpure, tpure, sspure, kset, tset, ksnoc, tsnoc, Kind.av, Twist.sl, Twist.tr, Invar.av, f19, f18, f17, f1]
        refine fin _ ?_
        simp only [true_iff]
        exact ⟨c1, c2', ek⟩
    · simp -dsimp -implicitDefEqProofs (disch := first | omega | (simp only [lenr]; done) | (simp only [lenr]; omega)) only [↓amPre, amAll, ↓reduceIte, reduceCtorEq, Nat.reduceEqDiff, Nat.reduceBEq, Nat.reduceAdd, Nat.reduceLeDiff, Nat.reduceSub, Nat.reduceMul, Int.reduceToNat, List.size_toArray, tyF, MM, bu0, ipure, kpure, tpure, sspure, kset, tset, ksnoc, tsnoc, Kind.av, Twist.sl, Twist.tr, Invar.av, c1, ne_true c2]
      refine fin _ ?_
      simp only [reduceCtorEq, false_iff]
      intro q; have := q.2.1; omega
  · simp -dsimp -implicitDefEqProofs (disch := first | omega | (simp only [lenr]; done) | (simp only [lenr]; omega)) only [↓amPre, amAll, ↓reduceIte, reduceCtorEq, Nat.reduceEqDiff, Nat.reduceBEq, Nat.reduceAdd, Nat.reduceLeDiff, Nat.reduceSub, Nat.reduceMul, Int.reduceToNat, List.size_toArray, tyF, MM, bu0, ipure, kpure, tpure, sspure, kset, tset, ksnoc, tsnoc, Kind.av, Twist.sl, Twist.tr, Invar.av, c1]
    refine fin _ ?_
    simp only [reduceCtorEq, false_iff]
    exact fun q => c1 q.1
theorem sIsPieceState (ks : List Kind) (s : List Twist) (h1 : ks.length ≤ 1099511627776) (h2 : s.length ≤ 1099511627776) (h3 : ∀ t ∈ s, t.to.length ≤ 1099511627776 ∧ t.by'.length ≤ 1099511627776) : SpecAt Try.prog 86 [ksl ks, tsl s] (.bl (decide (psOk ks s))) := by
  refine spec_of_awp (M := MM) (np := 2) (fz := true) mixed Try.func86 rfl rfl (by decide) rfl (Nat.le_refl _) (by decide +kernel) (.inr ⟨rfl, rfl⟩) trivial ?_
  simp -dsimp -implicitDefEqProofs (disch := first | omega | (simp only [lenr]; done) | (simp only [lenr]; omega)) only [↓amPre, amAll, ↓reduceIte, reduceCtorEq, Nat.reduceEqDiff, Nat.reduceBEq, Nat.reduceAdd, Nat.reduceLeDiff, Nat.reduceSub, Nat.reduceMul, Int.reduceToNat, List.size_toArray, tyF, MM, bu0, ipure, kpure, tpure, sspure, kset, tset, ksnoc, tsnoc, Kind.av, Twist.sl, Twist.tr, Invar.av]
  refine callP_of (sAreValidKinds _ h1) ?_
  have fin : ∀ b : Bool, (b = true ↔ psOk ks s) → Value.bool b = Value.bool (decide (psOk ks s)) := fun b h => bl_eq (by rw [h, decide_eq_true_iff])
  by_cases c1 : kindsOk ks
  · by_cases c2 : (s.length : Int) = ks.length
    · have c2' : s.length = ks.length := by omega
      simp -dsimp -implicitDefEqProofs (disch := first | omega | (simp only [lenr]; done) | (simp only [lenr]; omega)) only [↓amPre, amAll, ↓reduceIte, reduceCtorEq, Nat.reduceEqDiff, Nat.reduceBEq, Nat.reduceAdd, Nat.reduceLeDiff, Nat.reduceSub, Nat.reduceMul, Int.reduceToNat, List.size_toArray, tyF, MM, bu0, ipure, kpure, tpure, sspure, kset, tset, ksnoc, tsnoc, Kind.av, Twist.sl, Twist.tr, Invar.av, c1, ne_false c2]
      refine awp_loop (fun k st => k ≤ ks.length ∧ st.fr 5 = .i64 k ∧ st.fr 0 = ksl ks ∧ st.fr 1 = tsl s ∧ ∀ i, i < k → twOk (ks.getD i default) (s.getD i default)) (ks.length) ?_ ?_
      · simp -dsimp -implicitDefEqProofs (disch := first | omega | (simp only [lenr]; done) | (simp only [lenr]; omega)) only [↓amPre, amAll, ↓reduceIte, reduceCtorEq, Nat.reduceEqDiff, Nat.reduceBEq, Nat.reduceAdd, Nat.reduceLeDiff, Nat.reduceSub, Nat.reduceMul, Int.reduceToNat, List.size_toArray, tyF, MM, bu0, ipure, kpure, tpure, sspure, kset, tset, ksnoc, tsnoc, Kind.av, Twist.sl, Twist.tr, Invar.av]
        simp
      rintro k st _ ⟨hk, f5, f0, f1, ek⟩
      by_cases hlt : k < ks.length
      · obtain ⟨e1, e2⟩ := h3 _ (mem_getD s k default (by omega))
        simp -dsimp -implicitDefEqProofs (disch := first | omega | (simp only [lenr]; done) | (simp only [lenr]; omega)) only [↓amPre, amAll, ↓reduceIte, reduceCtorEq, Nat.reduceEqDiff, Nat.reduceBEq, Nat.reduceAdd, Nat.reduceLeDiff, Nat.reduceSub, Nat.reduceMul, Int.reduceToNat, List.size_toArray, tyF, MM, bu0, ipure, kpure, tpure, sspure, kset, tset, ksnoc, tsnoc, Kind.av, Twist.sl, Twist.tr, Invar.av, f5, f0, f1]
        refine callP_of (sValidTwist (ks.getD k default) (s.getD k default) (c1.2.1 _ (mem_getD ks k default hlt)) e1 e2) ?_
        by_cases w : twOk (ks.getD k default) (s.getD k default)
        · simp -dsimp -implicitDefEqProofs (disch := first | omega | (simp only [lenr]; done) | (simp only [lenr]; omega)) only [↓amPre, amAll, ↓reduceIte, reduceCtorEq, Nat.reduceEqDiff, Nat.reduceBEq, Nat.reduceAdd, Nat.reduceLeDiff, Nat.reduceSub, Nat.reduceMul, Int.reduceToNat, List.size_toArray, tyF, MM, bu0, ipure, kpure, tpure, sspure, kset, tset, ksnoc, tsnoc, Kind.av, Twist.sl, Twist.tr, Invar.av, f5, f0, f1, w]
          refine ⟨hlt, hlt, fun i hi => ?_⟩
          by_cases e : i = k
          · subst e; exact w
          · exact ek i (by omega)
        · simp -dsimp -implicitDefEqProofs (disch := first | omega | (simp only [lenr]; done) | (simp only [lenr]; omega)) only [↓amPre, amAll, ↓reduceIte, reduceCtorEq, Nat.reduceEqDiff, Nat.reduceBEq, Nat.reduceAdd, Nat.reduceLeDiff, Nat.reduceSub, Nat.reduceMul, Int.reduceToNat, List.size_toArray, tyF, MM, bu0, ipure, kpure, tpure, sspure, kset, tset, ksnoc, tsnoc, Kind.av, Twist.sl, Twist.tr, Invar.av, f5, f0, f1, w]
          refine fin _ ?_
          simp only [reduceCtorEq, false_iff]
          intro q; exact w (q.2.2 k hlt)
      · have hke : k = ks.length := by omega
        subst hke
        simp -dsimp -implicitDefEqProofs (disch := first | omega | (simp only [lenr]; done) | (simp only [lenr]; omega)) only [↓amPre, amAll, ↓reduceIte, reduceCtorEq, Nat.reduceEqDiff, Nat.reduceBEq, Nat.reduceAdd, Nat.reduceLeDiff, Nat.reduceSub, Nat.reduceMul, Int.reduceToNat, List.size_toArray, tyF, MM, bu0, ipure, kpure, tpure, sspure, kset, tset, ksnoc, tsnoc, Kind.av, Twist.sl, Twist.tr, Invar.av, f5, f0, f1]
        refine fin _ ?_
        simp only [true_iff]
        exact ⟨c1, c2', ek⟩
    · simp -dsimp -implicitDefEqProofs (disch := first | omega | (simp only [lenr]; done) | (simp only [lenr]; omega)) only [↓amPre, amAll, ↓reduceIte, reduceCtorEq, Nat.reduceEqDiff, Nat.reduceBEq, Nat.reduceAdd, Nat.reduceLeDiff, Nat.reduceSub, Nat.reduceMul, Int.reduceToNat, List.size_toArray, tyF, MM, bu0, ipure, kpure, tpure, sspure, kset, tset, ksnoc, tsnoc, Kind.av, Twist.sl, Twist.tr, Invar.av, c1, ne_true c2]
      refine fin _ ?_
      simp only [reduceCtorEq, false_iff]
      intro q; have := q.2.1; omega
  · simp -dsimp -implicitDefEqProofs (disch := first | omega | (simp only [lenr]; done) | (simp only [lenr]; omega)) only [↓amPre, amAll, ↓reduceIte, reduceCtorEq, Nat.reduceEqDiff, Nat.reduceBEq, Nat.reduceAdd, Nat.reduceLeDiff, Nat.reduceSub, Nat.reduceMul, Int.reduceToNat, List.size_toArray, tyF, MM, bu0, ipure, kpure, tpure, sspure, kset, tset, ksnoc, tsnoc, Kind.av, Twist.sl, Twist.tr, Invar.av, c1]
    refine fin _ ?_
    simp only [reduceCtorEq, false_iff]
    exact fun q => c1 q.1
end Go.AM
namespace Go.AM
theorem getD_eq' {α : Type} (l : List α) (i : Nat) (d : α) (h : i < l.length) : l.getD i d = l[i] := by simp [List.getD, h]
theorem any_at' : ∀ p : Path, AV.any.at p = .any
  | [] => rfl
  | ij :: p => by
    have : AV.any.cellAt ij.1 ij.2 = .any := by simp [AV.cellAt]
    rw [AV.at, this, any_at' p]
theorem trn_at (z : Nat) : ∀ p : Path, p ≠ [] → (AV.tr z []).at p = .any
  | [], h => (h rfl).elim
  | ij :: p, _ => by
    have : (AV.tr z []).cellAt ij.1 ij.2 = .any := by
      simp only [AV.cellAt, List.getD_nil, AV.cells]
      cases ij.2 <;> simp
    rw [AV.at, this, any_at' p]
def St.nilAs (st : St) (d s z : Nat) : St := ((st.kill s).setMem s (.tr z [])).put (some d) (.ref s [] z 0 0)
theorem ent_nil (st : St) (d s z : Nat) (h : st.fr d = .nilsl) (hs : 6 ≤ s) : Ent st (st.nilAs d s z) := by
  rintro N E a w h6 ⟨I, ρ, c⟩
  have c1 := c.kill (ρ' := fun s' => if s' = s then (fun _ => none) else ρ s') s (fun s' hne => by simp [hne])
  have hself : (fun s' => if s' = s then (fun _ => none) else ρ s') s = (fun _ => none : Path → Option Plc) := by simp
  have hno : ∀ s' T p k, (((st.kill s).setMem s (.tr z [])).mem s' = some T) → (T.at p).isNode = true → (if s' = s then (fun _ => none) else ρ s') p = some k → s' ≠ s ∧ (st.kill s).mem s' = some T := by
    intro s' T p k hm _ hk
    by_cases e : s' = s
    · subst e; simp at hk
    · simp only [St.setMem, e, if_false] at hm; exact ⟨e, hm⟩
  have hget : ∀ s' T, (((st.kill s).setMem s (.tr z [])).mem s' = some T) → (s' = s ∧ T = .tr z []) ∨ (s' ≠ s ∧ (st.kill s).mem s' = some T) := by
    intro s' T hm
    by_cases e : s' = s
    · subst e; simp only [St.setMem, if_true] at hm; cases hm; exact .inl ⟨rfl, rfl⟩
    · simp only [St.setMem, e, if_false] at hm; exact .inr ⟨e, hm⟩
  refine ⟨I, (fun s' => if s' = s then (fun _ => none) else ρ s'), ⟨c1.held, c1.below, c1.keeps, c1.size, c1.defers, fun i => ?_, ⟨fun s' T p hm => ?_, fun s' T p k hm hn hk => ?_, fun s' T p k s'' T' p' k' h1 h2 h3 h4 h5 h7 hb => ?_⟩, fun b hb => ?_, fun i c' T q h1 h2 h3 => ?_⟩⟩
  · by_cases e : i = d
    · subst e
      have hr := c.fr i
      rw [h] at hr
      show Rep I _ ((St.nilAs st i s z).fr i) _
      simp only [St.nilAs, St.put, if_true]
      generalize a.tmps.getD i undef = y at hr
      cases hr with
      | stat q => cases q; exact .ref0 s [] z 0 none
    · show Rep I _ ((St.nilAs st d s z).fr i) _
      simp only [St.nilAs, St.put, e, if_false]
      exact c1.fr i
  · rcases hget s' T hm with ⟨rfl, rfl⟩ | ⟨e, hm'⟩
    · simp only [if_true]
      by_cases hp : p = []
      · subst hp; exact .inl ⟨rfl, rfl⟩
      · rw [trn_at z p hp]; trivial
    · exact c1.mem.row s' T p hm'
  · exact c1.mem.free s' T p k (hno s' T p k hm hn hk).2 hn hk
  · exact c1.mem.inj s' T p k s'' T' p' k' (hno s' T p k h1 h2 h3).2 h2 h3 (hno s'' T' p' k' h4 h5 h7).2 h5 h7 hb
  · obtain ⟨s', T, p, k, h1, h2, h3, h4⟩ := hb
    exact c1.lo b ⟨s', T, p, k, (hno s' T p k h1 h2 h3).2, h2, h3, h4⟩
  · rcases hget i T h2 with ⟨rfl, rfl⟩ | ⟨e, hm'⟩
    · have : i < E.args.length := (List.getElem?_eq_some_iff.1 h1).1
      omega
    · exact c1.fix i c' T q h1 hm' h3
theorem awp_loopN {P : Program} {M : FuncId → List Bool} {c : Code} {Q : Exit → St → Prop} {st : St} {l : Lock c} {m : Lock Q} (d s z : Nat) (hd : st.fr d = .nilsl) (hs : 6 ≤ s) (J : Nat → St → Prop) (N : Nat) (h0 : J 0 (st.nilAs d s z))
    (h : ∀ k st1, k ≤ N → J k st1 → AWP P M c (thenQ (fun st' => k < N ∧ J (k + 1) st') Q) st1) : LoopP P M c Q st l m :=
  awp_loopE (st.nilAs d s z) (ent_nil st d s z hd hs) J N h0 h
/-! an owned tree gets another number -/
def St.ren (st : St) (s s' : Nat) (T : AV) : St := ((st.mapF (moveF s [] s' [])).del s).setMem s' T
theorem ren_eq (st : St) (s s' : Nat) (T : AV) : st.ren s s' T = ((st.mapF (moveF s [] s' [])).del s).setMem s' T := rfl
theorem ent_ren (st : St) (s s' : Nat) (T : AV) (hT : st.mem s = some T) (hs : 6 ≤ s) (hs' : 6 ≤ s') (hne : s ≠ s') : Ent st (st.ren s s' T) := by
  rintro N E a w h6 ⟨I, ρ, c⟩
  have hget : ∀ x X, (st.ren s s' T).mem x = some X → ∃ y, st.mem y = some X ∧ (if x = s' then ρ s else ρ x) = ρ y ∧ (x = s' ∧ y = s ∨ x ≠ s' ∧ x ≠ s ∧ y = x) := by
    intro x X hx
    simp only [St.ren, St.setMem, St.del, St.mapF] at hx
    by_cases e : x = s'
    · rw [if_pos e] at hx; cases hx; exact ⟨s, hT, by simp [e], .inl ⟨e, rfl⟩⟩
    · rw [if_neg e] at hx
      by_cases e2 : x = s
      · rw [if_pos e2] at hx; cases hx
      · rw [if_neg e2] at hx; exact ⟨x, hx, by simp [e], .inr ⟨e, e2, rfl⟩⟩
  refine ⟨I, (fun x => if x = s' then ρ s else ρ x), ?_⟩
  have hsep : Sep I (fun x => if x = s' then ρ s else ρ x) w (st.ren s s' T).mem := by
    refine ⟨fun x X p hx => ?_, fun x X p k hx hn hk => ?_, fun x X p k x' X' p' k' h1 h2 h3 h4 h5 h7 hb => ?_⟩
    · obtain ⟨y, h1, h2, _⟩ := hget x X hx
      show NodeOk I ((fun x => if x = s' then ρ s else ρ x) x) w p (X.at p)
      simp only [h2]; exact c.mem.row y X p h1
    · obtain ⟨y, h1, h2, _⟩ := hget x X hx
      simp only [h2] at hk; exact c.mem.free y X p k h1 hn hk
    · obtain ⟨y, k1, k2, k3⟩ := hget x X h1
      obtain ⟨y', j1, j2, j3⟩ := hget x' X' h4
      simp only [k2] at h3; simp only [j2] at h7
      obtain ⟨q1, q2⟩ := c.mem.inj y X p k y' X' p' k' k1 h2 h3 j1 h5 h7 hb
      refine ⟨?_, q2⟩
      rcases k3 with ⟨a1, a2⟩ | ⟨a1, a2, a3⟩ <;> rcases j3 with ⟨b1, b2⟩ | ⟨b1, b2, b3⟩ <;> omega
  refine c.remap (ρ' := fun x => if x = s' then ρ s else ρ x) (mem' := (st.ren s s' T).mem) (moveF s [] s' []) (fun x p x' p' hf => ?_) c.held (fun _ _ _ h => h) c.below c.keeps hsep (fun b hb => ?_) (fun i c' X q h1 hX h3 => ?_)
  · unfold moveF at hf
    by_cases e : x = s
    · rw [if_pos e] at hf
      have : isPref [] p = true := by cases p <;> rfl
      rw [this] at hf
      simp only [List.length_nil, List.drop_zero, List.nil_append, Option.some.injEq, Prod.mk.injEq] at hf
      obtain ⟨rfl, rfl⟩ := hf
      simp [e]
    · rw [if_neg e] at hf
      unfold fromF at hf
      by_cases e2 : x = s'
      · rw [if_pos e2] at hf
        have : isPref [] p = true := by cases p <;> rfl
        rw [this] at hf; cases hf
      · rw [if_neg e2] at hf; cases hf; simp [e2]
  · obtain ⟨x, X, p, k, h1, h2, h3, h4⟩ := hb
    obtain ⟨y, k1, k2, _⟩ := hget x X h1
    simp only [k2] at h3
    exact c.lo b ⟨y, X, p, k, k1, h2, h3, h4⟩
  · obtain ⟨y, k1, k2, k3⟩ := hget i X hX
    have hi : i < E.args.length := (List.getElem?_eq_some_iff.1 h1).1
    rcases k3 with ⟨a1, _⟩ | ⟨a1, a2, a3⟩
    · omega
    · subst a3; simp only [a1, if_false]; exact c.fix y c' X q h1 k1 h3
theorem awp_loopR {P : Program} {M : FuncId → List Bool} {c : Code} {Q : Exit → St → Prop} {st : St} {l : Lock c} {m : Lock Q} (s s' : Nat) (T : AV) (hT : st.mem s = some T) (hs : 6 ≤ s) (hs' : 6 ≤ s') (hne : s ≠ s') (J : Nat → St → Prop) (N : Nat) (h0 : J 0 (st.ren s s' T))
    (h : ∀ k st1, k ≤ N → J k st1 → AWP P M c (thenQ (fun st' => k < N ∧ J (k + 1) st') Q) st1) : LoopP P M c Q st l m :=
  awp_loopE (st.ren s s' T) (ent_ren st s s' T hT hs hs' hne) J N h0 h
def St.nilC (st : St) (s j z w : Nat) (cs : List AV) : St := (st.mapF (fromF s [(0, j)])).setMem s (.pt z (.agg (cs.set j (.tr w []))))
theorem nilC_eq (st : St) (s j z w : Nat) (cs : List AV) : st.nilC s j z w cs = (st.mapF (fromF s [(0, j)])).setMem s (.pt z (.agg (cs.set j (.tr w [])))) := rfl
theorem pref1 (j : Nat) (p : Path) : isPref [(0, j)] p = true ↔ ∃ q, p = (0, j) :: q := by
  cases p with
  | nil => simp [isPref]
  | cons a q =>
    simp only [isPref, Bool.and_true, decide_eq_true_eq]
    constructor
    · rintro ⟨h1, h2⟩; exact ⟨q, by rw [h1, h2]⟩
    · rintro ⟨q', h⟩; cases h; simp
theorem ent_nilC (st : St) (s j z w : Nat) (cs : List AV) (hm : st.mem s = some (.pt z (.agg cs))) (hj : j < cs.length) (hc : cs.getD j .any = .nilsl) : Ent st (st.nilC s j z w cs) := by
  rintro N E a wd h6 ⟨I, ρ, c⟩
  have hcj : cs[j] = .nilsl := by rw [← getD_eq' cs j .any hj]; exact hc
  let ρ' : Pl := fun x p => if x = s ∧ isPref [(0, j)] p = true then none else ρ x p
  have hρ : ∀ x p, ¬ (x = s ∧ isPref [(0, j)] p = true) → ρ' x p = ρ x p := fun x p h => if_neg h
  have hρ0 : ∀ q, ρ' s ((0, j) :: q) = none := fun q => if_pos ⟨rfl, (pref1 j _).2 ⟨q, rfl⟩⟩
  have hcell : ∀ i' j', ¬ (i' = 0 ∧ j' = j) → (AV.pt z (.agg (cs.set j (.tr w [])))).cellAt i' j' = (AV.pt z (.agg cs)).cellAt i' j' := by
    intro i' j' hne
    cases i' with
    | zero =>
      show (cs.set j (.tr w [])).getD j' .any = cs.getD j' .any
      simp only [List.getD]
      rw [List.getElem?_set_ne (by rintro rfl; exact hne ⟨rfl, rfl⟩)]
    | succ i' => rfl
  have hcell0 : (AV.pt z (.agg (cs.set j (.tr w [])))).cellAt 0 j = .tr w [] := by
    show (cs.set j (.tr w [])).getD j .any = _
    simp [List.getD, hj]
  have hat : ∀ p, (¬ ∃ q, p = (0, j) :: q) → p ≠ [] → (AV.pt z (.agg (cs.set j (.tr w [])))).at p = (AV.pt z (.agg cs)).at p := by
    intro p hp hn
    cases p with
    | nil => exact (hn rfl).elim
    | cons ij q =>
      rw [AV.at, AV.at, hcell ij.1 ij.2]
      rintro ⟨e1, e2⟩; exact hp ⟨q, by rw [← e1, ← e2]⟩
  have hat0 : ∀ q, (AV.pt z (.agg (cs.set j (.tr w [])))).at ((0, j) :: q) = (AV.tr w []).at q := by
    intro q; rw [AV.at]; show ((AV.pt z (.agg (cs.set j (.tr w [])))).cellAt 0 j).at q = _; rw [hcell0]
  have hmem : ∀ x X, (st.nilC s j z w cs).mem x = some X → (x = s ∧ X = .pt z (.agg (cs.set j (.tr w [])))) ∨ (x ≠ s ∧ st.mem x = some X) := by
    intro x X hx
    simp only [St.nilC, St.setMem, St.mapF] at hx
    by_cases e : x = s
    · rw [if_pos e] at hx; cases hx; exact .inl ⟨e, rfl⟩
    · rw [if_neg e] at hx; exact .inr ⟨e, hx⟩
  -- a node of the new memory that has a place is a node of the old one
  have hold : ∀ x X p k, (st.nilC s j z w cs).mem x = some X → (X.at p).isNode = true → ρ' x p = some k → ∃ Y, st.mem x = some Y ∧ (Y.at p).isNode = true ∧ ρ x p = some k := by
    intro x X p k hx hn hk
    rcases hmem x X hx with ⟨rfl, rfl⟩ | ⟨e, hx'⟩
    · by_cases hp : ∃ q, p = (0, j) :: q
      · obtain ⟨q, rfl⟩ := hp; rw [hρ0] at hk; cases hk
      · have hk' := hk
        rw [hρ x p (fun h => hp ((pref1 j p).1 h.2))] at hk'
        by_cases hp0 : p = []
        · subst hp0; exact ⟨_, hm, rfl, hk'⟩
        · rw [hat p hp hp0] at hn; exact ⟨_, hm, hn, hk'⟩
    · rw [hρ x p (fun h => e h.1)] at hk; exact ⟨X, hx', hn, hk⟩
  have hsep : Sep I ρ' wd (st.nilC s j z w cs).mem := by
    refine ⟨fun x X p hx => ?_, fun x X p k hx hn hk => ?_, fun x X p k x' X' p' k' h1 h2 h3 h4 h5 h7 hb => ?_⟩
    · rcases hmem x X hx with ⟨rfl, rfl⟩ | ⟨e, hx'⟩
      · by_cases hp : ∃ q, p = (0, j) :: q
        · obtain ⟨q, rfl⟩ := hp
          rw [hat0 q]
          cases q with
          | nil => exact .inl ⟨hρ0 [], rfl⟩
          | cons ij q => rw [trn_at w (ij :: q) (by simp)]; trivial
        · by_cases hp0 : p = []
          · subst hp0
            have hold := c.mem.row x _ [] hm
            show RowOk I (ρ' x) wd [] z [AV.agg (cs.set j (.tr w []))]
            have hold' : RowOk I (ρ x) wd [] z [AV.agg cs] := hold
            rcases hold' with ⟨_, h⟩ | ⟨k, E', arr, h1, h2, h3, h4, h5, h7, h8⟩
            · cases h
            · refine .inr ⟨k, E', arr, by rw [hρ x [] (fun h => by cases h.2)]; exact h1, h2, h3, h4, h5, h7, fun i hi => ?_⟩
              have hi0 : i = 0 := by simp at hi; omega
              subst hi0
              obtain ⟨g1, g2⟩ := h8 0 (by simp)
              refine ⟨by simpa [AV.cells] using g1, fun j' hj' => ?_⟩
              have hj2 : j' < cs.length := by simpa [AV.cells] using hj'
              obtain ⟨g3, g4⟩ := g2 j' (by simpa [AV.cells] using hj2)
              refine ⟨?_, g4⟩
              by_cases e : j' = j
              · subst e
                have g3' : CellOk I (ρ x ([] ++ [(0, j')])) (cs[j']) (arr.getD (k.off + 0 * z + j') undef) := by simpa [AV.cells] using g3
                rw [hcj] at g3'
                have hce : (AV.agg (cs.set j' (.tr w []))).cells[j'] = .tr w [] := by simp [AV.cells]
                show CellOk I (ρ' x ([] ++ [(0, j')])) ((AV.agg (cs.set j' (.tr w []))).cells[j']) _
                rw [hce]
                refine .inl ⟨rfl, .inr ⟨rfl, ?_⟩⟩
                rcases g3' with ⟨q, _⟩ | ⟨_, q⟩
                · cases q
                · generalize arr.getD (k.off + 0 * z + j') undef = y at q ⊢
                  cases q; exact ⟨none, rfl⟩
              · have hce : (AV.agg (cs.set j (.tr w []))).cells[j'] = cs[j'] := by
                  simp only [AV.cells]; rw [List.getElem_set_ne (fun h => e h.symm)]
                show CellOk I (ρ' x ([] ++ [(0, j')])) ((AV.agg (cs.set j (.tr w []))).cells[j']) _
                rw [hce, hρ x _ (fun h => by obtain ⟨q, hq⟩ := (pref1 j _).1 h.2; simp at hq; exact e hq.1)]
                simpa [AV.cells] using g3
          · rw [hat p hp hp0]
            have := c.mem.row x _ p hm
            have hp1 : ∀ q : Path, ¬ (x = x ∧ isPref [(0, j)] (p ++ q) = true) := by
              rintro q ⟨_, h⟩
              obtain ⟨r, hr⟩ := (pref1 j _).1 h
              cases p with
              | nil => exact hp0 rfl
              | cons a p => simp at hr; exact hp ⟨p, by rw [hr.1]⟩
            have hpp : ρ' x p = ρ x p := by have := hp1 []; rw [List.append_nil] at this; exact hρ x p this
            generalize (AV.pt z (AV.agg cs)).at p = Y at this ⊢
            cases Y with
            | tr z' es =>
              rcases this with ⟨h1, h2⟩ | ⟨k, E', arr, h1, h2, h3, h4, h5, h7, h8⟩
              · exact .inl ⟨hpp.trans h1, h2⟩
              · exact .inr ⟨k, E', arr, hpp.trans h1, h2, h3, h4, h5, h7, fun i hi => ⟨(h8 i hi).1, fun j' hj' => by rw [hρ x _ (hp1 _)]; exact (h8 i hi).2 j' hj'⟩⟩
            | pt z' y =>
              rcases this with ⟨h1, h2⟩ | ⟨k, E', arr, h1, h2, h3, h4, h5, h7, h8⟩
              · cases h2
              · exact .inr ⟨k, E', arr, hpp.trans h1, h2, h3, h4, h5, h7, fun i hi => ⟨(h8 i hi).1, fun j' hj' => by rw [hρ x _ (hp1 _)]; exact (h8 i hi).2 j' hj'⟩⟩
            | mt kd m => obtain ⟨k, es, cp, h1, h2⟩ := this; exact ⟨k, es, cp, hpp.trans h1, h2⟩
            | _ => trivial
      · have : ρ' x = ρ x := by funext p; exact hρ x p (fun h => e h.1)
        rw [this]; exact c.mem.row x X p hx'
    · obtain ⟨Y, k1, k2, k3⟩ := hold x X p k hx hn hk
      exact c.mem.free x Y p k k1 k2 k3
    · obtain ⟨Y, k1, k2, k3⟩ := hold x X p k h1 h2 h3
      obtain ⟨Y', j1, j2, j3⟩ := hold x' X' p' k' h4 h5 h7
      exact c.mem.inj x Y p k x' Y' p' k' k1 k2 k3 j1 j2 j3 hb
  refine ⟨I, ρ', c.remap (ρ' := ρ') (mem' := (st.nilC s j z w cs).mem) (fromF s [(0, j)]) (fun x p x' p' hf => ?_) c.held (fun _ _ _ h => h) c.below c.keeps hsep (fun b hb => ?_) (fun i c' X q h1 hX h3 => ?_)⟩
  · unfold fromF at hf
    by_cases e : x = s
    · rw [if_pos e] at hf
      cases h : isPref [(0, j)] p with
      | true => rw [h] at hf; cases hf
      | false => rw [h] at hf; cases hf; exact hρ x p (fun q => by rw [h] at q; cases q.2)
    · rw [if_neg e] at hf; cases hf; exact hρ x p (fun q => e q.1)
  · obtain ⟨x, X, p, k, h1, h2, h3, h4⟩ := hb
    obtain ⟨Y, k1, k2, k3⟩ := hold x X p k h1 h2 h3
    exact c.lo b ⟨x, Y, p, k, k1, k2, k3, h4⟩
  · rcases hmem i X hX with ⟨rfl, rfl⟩ | ⟨e, hx'⟩
    · have hq : q = [] := h3
      subst hq
      rw [hρ i [] (fun h => by cases h.2)]
      exact c.fix i c' _ [] h1 hm rfl
    · rw [hρ i q (fun h => e h.1)]; exact c.fix i c' X q h1 hx' h3
theorem awp_loopC {P : Program} {M : FuncId → List Bool} {c : Code} {Q : Exit → St → Prop} {st : St} {l : Lock c} {m : Lock Q} (s j z w : Nat) (cs : List AV) (hm : st.mem s = some (.pt z (.agg cs))) (hj : j < cs.length) (hc : cs.getD j .any = .nilsl) (J : Nat → St → Prop) (N : Nat) (h0 : J 0 (st.nilC s j z w cs))
    (h : ∀ k st1, k ≤ N → J k st1 → AWP P M c (thenQ (fun st' => k < N ∧ J (k + 1) st') Q) st1) : LoopP P M c Q st l m :=
  awp_loopE (st.nilC s j z w cs) (ent_nilC st s j z w cs hm hj hc) J N h0 h
theorem nilAs_eq (st : St) (d s z : Nat) : st.nilAs d s z = ((st.kill s).setMem s (.tr z [])).put (some d) (.ref s [] z 0 0) := rfl
end Go.AM
set_option maxRecDepth 8000
namespace Go.AM
open Go.Proofs
def compR (ks : List Kind) (a b : List Twist) : AV := if psOk ks a ∧ psOk ks b then .tup [ttr (compS ks a b), .bl true] else .tup [.tr 2 [], .bl false]
abbrev smallT (s : List Twist) : Prop := s.length ≤ 1099511627776 ∧ ∀ t ∈ s, t.to.length ≤ 1099511627776 ∧ t.by'.length ≤ 1099511627776
end Go.AM
set_option maxRecDepth 8000
namespace Go.AM
open Go.Proofs
def invR (ks : List Kind) (a : List Twist) : AV := if psOk ks a then .tup [ttr (invS ks a), .bl true] else .tup [.tr 2 [], .bl false]
end Go.AM
set_option maxRecDepth 8000
namespace Go.AM
open Go.Proofs
def fewT (s : List Twist) : Prop := s.length ≤ 3 ∧ (∀ t ∈ s, t.to.length ≤ 20 ∧ t.by'.length ≤ 20) ∧ cnts s ≤ 120
theorem szT_small {s : List Twist} {k : Int} (hk : k ≤ 1048576) (h : 0 ≤ k - sizeL s) : smallT s ∧ cnts s ≤ 1048576 := by
  unfold sizeL at h
  refine ⟨⟨by omega, fun t ht => ?_⟩, by omega⟩
  have := cnts_mem ht
  have e : Mk.cnt t = t.to.length + t.by'.length := rfl
  omega
abbrev wfT (s : List Twist) : Prop := s.length ≤ 9223372036854775807 ∧ ∀ t ∈ s, t.to.length ≤ 9223372036854775807 ∧ t.by'.length ≤ 9223372036854775807
end Go.AM
set_option maxRecDepth 8000
namespace Go.AM
open Go.Proofs
theorem prod_bound {a b : Int} (h1 : 0 ≤ a) (h2 : a ≤ 20) (h3 : 0 ≤ b) (h4 : b ≤ 20) : 0 ≤ a * b ∧ a * b ≤ 400 := by
  have := Int.mul_le_mul h2 h4 h3 (by omega)
  have := Int.mul_nonneg h1 h3
  omega
theorem natmul_bound {a b : Nat} (h2 : a ≤ 20) (h4 : b ≤ 20) : a * b ≤ 400 := Nat.mul_le_mul h2 h4
theorem permL_le {ks : List Kind} {s : List Twist} (h : kindsOk ks) {n : Nat} (hn : n ≤ ks.length) : (permL ks s n).length ≤ 20 := by
  have := permL_len ks s h.2.1 n hn
  have := (facets_mono ks h.2.1 n).1
  have := h.2.2
  omega
theorem sl21Permutation (ks : List Kind) (s : List Twist) (ps : psOk ks s) : SpecAt Try.prog 108 [ksl ks, tsl s] (itr (permOf ks s)) := by
  have hl3 := ps.1.1.2
  have hsl := ps.2.1
  refine spec_of_awp (M := MM) (np := 2) (fz := false) mixed Try.func108 rfl rfl (by decide) rfl (Nat.le_refl _) (by decide +kernel) (.inl rfl) (by first | trivial | simp only [sigsOk_nil, sigsOk_some, sigsOk_none, sig_tr, sig_pt, sig_mt, sig_agg, List.map_cons, List.map_nil, sig1_tr, sig1_pt, sig1_v, and_self, true_and, List.length_map, List.length_set]) ?_
  simp -dsimp -implicitDefEqProofs (disch := first | omega | (simp only [lenr]; done) | (simp only [lenr]; omega)) only [↓amPre, amAll, ↓reduceIte, reduceCtorEq, Nat.reduceEqDiff, Nat.reduceBEq, Nat.reduceAdd, Nat.reduceLeDiff, Nat.reduceSub, Nat.reduceMul, Int.reduceToNat, List.size_toArray, tyF, MM, bu0, ipure, kpure, tpure, sspure, kset, tset, ksnoc, tsnoc, Kind.av, Twist.sl, Twist.tr, Invar.av, stsize, stget, sttl, stapp, stext, tsspure, Model.sl, Model.tr]
  refine awp_loopR 11 64 (.tr 1 []) (by simp -dsimp -implicitDefEqProofs (disch := first | omega | (simp only [lenr]; done) | (simp only [lenr]; omega)) only [↓amPre, amAll, ↓reduceIte, reduceCtorEq, Nat.reduceEqDiff, Nat.reduceBEq, Nat.reduceAdd, Nat.reduceLeDiff, Nat.reduceSub, Nat.reduceMul, Int.reduceToNat, List.size_toArray, tyF, MM, bu0, ipure, kpure, tpure, sspure, kset, tset, ksnoc, tsnoc, Kind.av, Twist.sl, Twist.tr, Invar.av, stsize, stget, sttl, stapp, stext, tsspure, Model.sl, Model.tr]) (by decide) (by decide) (by decide) (fun k st => k ≤ ks.length ∧ st.fr 7 = .i64 k ∧ st.fr 0 = ksl ks ∧ st.fr 1 = tsl s ∧ st.fr 6 = .i64 (permL ks s k).length ∧ st.fr 5 = .ref 64 [] 1 0 (permL ks s k).length ∧ st.mem 64 = some (itr (permL ks s k))) (ks.length) ?_ ?_
  · simp -dsimp -implicitDefEqProofs (disch := first | omega | (simp only [lenr]; done) | (simp only [lenr]; omega)) only [↓amPre, amAll, ↓reduceIte, reduceCtorEq, Nat.reduceEqDiff, Nat.reduceBEq, Nat.reduceAdd, Nat.reduceLeDiff, Nat.reduceSub, Nat.reduceMul, Int.reduceToNat, List.size_toArray, tyF, MM, bu0, ipure, kpure, tpure, sspure, kset, tset, ksnoc, tsnoc, Kind.av, Twist.sl, Twist.tr, Invar.av, stsize, stget, sttl, stapp, stext, tsspure, Model.sl, Model.tr, ren_eq]
    simp [permL]
  rintro k st _ ⟨hk, f7, f0, f1, f6, f5, m64⟩
  have hlen := permL_le (s := s) ps.1 hk
  by_cases hlt : k < ks.length
  · have hk2 := ps.1.2.1 _ (mem_getD ks k default hlt)
    have ta := tw_get ps hlt
    obtain ⟨c, o, hc, ho, la, la', c1, c2, o1, o2⟩ := twOk_facts ta hk2
    have hstep : permL ks s (k + 1) = permL ks s k ++ rowL (permL ks s k).length o (s.getD k default) c := by rw [permL, hc, ho, Int.toNat_natCast]
    generalize hA : s.getD k default = A at ta la la' hstep
    generalize hb : permL ks s k = B at hlen hstep f6 f5 m64
    simp -dsimp -implicitDefEqProofs (disch := first | omega | (simp only [lenr]; done) | (simp only [lenr]; omega)) only [↓amPre, amAll, ↓reduceIte, reduceCtorEq, Nat.reduceEqDiff, Nat.reduceBEq, Nat.reduceAdd, Nat.reduceLeDiff, Nat.reduceSub, Nat.reduceMul, Int.reduceToNat, List.size_toArray, tyF, MM, bu0, ipure, kpure, tpure, sspure, kset, tset, ksnoc, tsnoc, Kind.av, Twist.sl, Twist.tr, Invar.av, stsize, stget, sttl, stapp, stext, tsspure, Model.sl, Model.tr, f7, f0, f1, f6, f5, m64, hA, hc, ho]
    refine awp_loop (fun i st => i ≤ c ∧ st.fr 9 = .i64 i ∧ st.fr 8 = .i64 o ∧ st.fr 7 = .i64 k ∧ st.fr 0 = ksl ks ∧ st.fr 1 = tsl s ∧ st.fr 6 = .i64 B.length ∧ st.fr 5 = .ref 64 [] 1 0 (B ++ rowL B.length o A i).length ∧ st.mem 64 = some (itr (B ++ rowL B.length o A i))) (c) ?_ ?_
    · simp -dsimp -implicitDefEqProofs (disch := first | omega | (simp only [lenr]; done) | (simp only [lenr]; omega)) only [↓amPre, amAll, ↓reduceIte, reduceCtorEq, Nat.reduceEqDiff, Nat.reduceBEq, Nat.reduceAdd, Nat.reduceLeDiff, Nat.reduceSub, Nat.reduceMul, Int.reduceToNat, List.size_toArray, tyF, MM, bu0, ipure, kpure, tpure, sspure, kset, tset, ksnoc, tsnoc, Kind.av, Twist.sl, Twist.tr, Invar.av, stsize, stget, sttl, stapp, stext, tsspure, Model.sl, Model.tr, f7, f0, f1, f6, f5, m64, rowL]
      simp
    rintro i st _ ⟨hi, f9, f8, f7, f0, f1, f6, f5, m64⟩
    have hrl := rowL_len B.length o A i
    rw [Int.toNat_natCast] at hrl
    have hio := natmul_bound (show i ≤ 20 by omega) o2
    by_cases hlt' : i < c
    · have hx := to_get ta (show i < A.to.length by omega)
      have hy := by_get ta (show i < A.by'.length by omega)
      have hxo := prod_bound hx.1 (show A.to.getD i 0 ≤ 20 by omega) (show (0:Int) ≤ o by omega) (by omega)
      simp -dsimp -implicitDefEqProofs (disch := first | omega | (simp only [lenr]; done) | (simp only [lenr]; omega)) only [↓amPre, amAll, ↓reduceIte, reduceCtorEq, Nat.reduceEqDiff, Nat.reduceBEq, Nat.reduceAdd, Nat.reduceLeDiff, Nat.reduceSub, Nat.reduceMul, Int.reduceToNat, List.size_toArray, tyF, MM, bu0, ipure, kpure, tpure, sspure, kset, tset, ksnoc, tsnoc, Kind.av, Twist.sl, Twist.tr, Invar.av, stsize, stget, sttl, stapp, stext, tsspure, Model.sl, Model.tr, f9, f8, f7, f0, f1, f6, f5, m64, hA, hc, ho]
      refine awp_loop (fun j st => j ≤ o ∧ st.fr 10 = .i64 j ∧ st.fr 9 = .i64 i ∧ st.fr 8 = .i64 o ∧ st.fr 7 = .i64 k ∧ st.fr 0 = ksl ks ∧ st.fr 1 = tsl s ∧ st.fr 6 = .i64 B.length ∧ st.fr 5 = .ref 64 [] 1 0 (B ++ rowL B.length o A i ++ cellL B.length o (A.to.getD i 0) (A.by'.getD i 0) j).length ∧ st.mem 64 = some (itr (B ++ rowL B.length o A i ++ cellL B.length o (A.to.getD i 0) (A.by'.getD i 0) j))) (o) ?_ ?_
      · simp -dsimp -implicitDefEqProofs (disch := first | omega | (simp only [lenr]; done) | (simp only [lenr]; omega)) only [↓amPre, amAll, ↓reduceIte, reduceCtorEq, Nat.reduceEqDiff, Nat.reduceBEq, Nat.reduceAdd, Nat.reduceLeDiff, Nat.reduceSub, Nat.reduceMul, Int.reduceToNat, List.size_toArray, tyF, MM, bu0, ipure, kpure, tpure, sspure, kset, tset, ksnoc, tsnoc, Kind.av, Twist.sl, Twist.tr, Invar.av, stsize, stget, sttl, stapp, stext, tsspure, Model.sl, Model.tr, f9, f8, f7, f0, f1, f6, f5, m64, cellL, hrl]
        simp
      rintro j st _ ⟨hj, f10, f9, f8, f7, f0, f1, f6, f5, m64⟩
      have hcl := cellL_len B.length o (A.to.getD i 0) (A.by'.getD i 0) j
      have hll : (B ++ rowL B.length o A i ++ cellL B.length o (A.to.getD i 0) (A.by'.getD i 0) j).length = B.length + i * o + j := by simp only [List.length_append, hrl, hcl]
      by_cases hlt'' : j < o
      · have hcs := cellL_succ B.length o (A.to.getD i 0) (A.by'.getD i 0) j
        have hm1 := Int.tmod_nonneg (o : Int) (show (0:Int) ≤ j + A.by'.getD i 0 by omega)
        have hm2 := Int.tmod_lt_of_pos (j + A.by'.getD i 0) (show (0:Int) < o by omega)
        have hll2 : (B ++ rowL B.length o A i ++ cellL B.length o (A.to.getD i 0) (A.by'.getD i 0) (j + 1)).length = B.length + i * o + j + 1 := by simp only [List.length_append, hrl, cellL_len]; omega
        rw [hll] at f5
        have happ : B ++ rowL B.length o A i ++ cellL B.length o (A.to.getD i 0) (A.by'.getD i 0) j ++ [(B.length : Int) + A.to.getD i 0 * o + ((j : Int) + A.by'.getD i 0).tmod o] = B ++ rowL B.length o A i ++ cellL B.length o (A.to.getD i 0) (A.by'.getD i 0) (j + 1) := by rw [hcs]; simp only [List.append_assoc]
        simp -dsimp -implicitDefEqProofs (disch := first | omega | (simp only [lenr]; done) | (simp only [lenr]; omega)) only [↓amPre, amAll, ↓reduceIte, reduceCtorEq, Nat.reduceEqDiff, Nat.reduceBEq, Nat.reduceAdd, Nat.reduceLeDiff, Nat.reduceSub, Nat.reduceMul, Int.reduceToNat, List.size_toArray, tyF, MM, bu0, ipure, kpure, tpure, sspure, kset, tset, ksnoc, tsnoc, Kind.av, Twist.sl, Twist.tr, Invar.av, stsize, stget, sttl, stapp, stext, tsspure, Model.sl, Model.tr, f10, f9, f8, f7, f0, f1, f6, f5, m64, hA, hll, hll2, happ]
        repeat' (first | omega | rfl | exact i64c (by omega) | exact vic (by omega) | apply And.intro)
      · have hje : j = o := by omega
        subst hje
        have hrs : rowL B.length j A (i + 1) = rowL B.length j A i ++ cellL B.length j (A.to.getD i 0) (A.by'.getD i 0) j := by rw [rowL, Int.toNat_natCast]
        rw [List.append_assoc, ← hrs] at f5 m64
        simp -dsimp -implicitDefEqProofs (disch := first | omega | (simp only [lenr]; done) | (simp only [lenr]; omega)) only [↓amPre, amAll, ↓reduceIte, reduceCtorEq, Nat.reduceEqDiff, Nat.reduceBEq, Nat.reduceAdd, Nat.reduceLeDiff, Nat.reduceSub, Nat.reduceMul, Int.reduceToNat, List.size_toArray, tyF, MM, bu0, ipure, kpure, tpure, sspure, kset, tset, ksnoc, tsnoc, Kind.av, Twist.sl, Twist.tr, Invar.av, stsize, stget, sttl, stapp, stext, tsspure, Model.sl, Model.tr, f10, f9, f8, f7, f0, f1, f6, f5, m64]
        repeat' (first | omega | rfl | exact i64c (by omega) | exact vic (by omega) | apply And.intro)
    · have hie : i = c := by omega
      subst hie
      rw [← hstep] at f5 m64
      have hlen2 : (permL ks s (k + 1)).length = B.length + i * o := by rw [hstep, List.length_append, hrl]
      have hco : ((i * o : Nat) : Int) = (i : Int) * o := by simp
      have hwr : IntKind.i64.wrap ((i : Int) * o) = ((i * o : Nat) : Int) := by rw [← hco]; exact wrap64_id (by omega)
      simp -dsimp -implicitDefEqProofs (disch := first | omega | (simp only [lenr]; done) | (simp only [lenr]; omega)) only [↓amPre, amAll, ↓reduceIte, reduceCtorEq, Nat.reduceEqDiff, Nat.reduceBEq, Nat.reduceAdd, Nat.reduceLeDiff, Nat.reduceSub, Nat.reduceMul, Int.reduceToNat, List.size_toArray, tyF, MM, bu0, ipure, kpure, tpure, sspure, kset, tset, ksnoc, tsnoc, Kind.av, Twist.sl, Twist.tr, Invar.av, stsize, stget, sttl, stapp, stext, tsspure, Model.sl, Model.tr, f9, f8, f7, f0, f1, f6, f5, m64, hc, ho, hwr]
      refine ⟨hlt, hlt, ?_⟩
      rw [hlen2]
      simp
  · have hke : k = ks.length := by omega
    subst hke
    simp -dsimp -implicitDefEqProofs (disch := first | omega | (simp only [lenr]; done) | (simp only [lenr]; omega)) only [↓amPre, amAll, ↓reduceIte, reduceCtorEq, Nat.reduceEqDiff, Nat.reduceBEq, Nat.reduceAdd, Nat.reduceLeDiff, Nat.reduceSub, Nat.reduceMul, Int.reduceToNat, List.size_toArray, tyF, MM, bu0, ipure, kpure, tpure, sspure, kset, tset, ksnoc, tsnoc, Kind.av, Twist.sl, Twist.tr, Invar.av, stsize, stget, sttl, stapp, stext, tsspure, Model.sl, Model.tr, f7, f0, f1, f6, f5, m64]
    rfl
end Go.AM
set_option maxRecDepth 8000
namespace Go.AM
open Go.Proofs
theorem ipiecesToPerm (ks : List Kind) (s : List Twist) (ps : psOk ks s) : SpecAt Try.prog 95 [ksl ks, tsl s] (itr (permOf ks s)) := by
  have hl3 := ps.1.1.2
  have hsl := ps.2.1
  refine spec_of_awp (M := MM) (np := 2) (fz := false) mixed Try.func95 rfl rfl (by decide) rfl (Nat.le_refl _) (by decide +kernel) (.inl rfl) (by first | trivial | simp only [sigsOk_nil, sigsOk_some, sigsOk_none, sig_tr, sig_pt, sig_mt, sig_agg, List.map_cons, List.map_nil, sig1_tr, sig1_pt, sig1_v, and_self, true_and, List.length_map, List.length_set]) ?_
  simp -dsimp -implicitDefEqProofs (disch := first | omega | (simp only [lenr]; done) | (simp only [lenr]; omega)) only [↓amPre, amAll, ↓reduceIte, reduceCtorEq, Nat.reduceEqDiff, Nat.reduceBEq, Nat.reduceAdd, Nat.reduceLeDiff, Nat.reduceSub, Nat.reduceMul, Int.reduceToNat, List.size_toArray, tyF, MM, bu0, ipure, kpure, tpure, sspure, kset, tset, ksnoc, tsnoc, Kind.av, Twist.sl, Twist.tr, Invar.av, stsize, stget, sttl, stapp, stext, tsspure, Model.sl, Model.tr]
  refine awp_loopN 5 59 1 (by simp -dsimp -implicitDefEqProofs (disch := first | omega | (simp only [lenr]; done) | (simp only [lenr]; omega)) only [↓amPre, amAll, ↓reduceIte, reduceCtorEq, Nat.reduceEqDiff, Nat.reduceBEq, Nat.reduceAdd, Nat.reduceLeDiff, Nat.reduceSub, Nat.reduceMul, Int.reduceToNat, List.size_toArray, tyF, MM, bu0, ipure, kpure, tpure, sspure, kset, tset, ksnoc, tsnoc, Kind.av, Twist.sl, Twist.tr, Invar.av, stsize, stget, sttl, stapp, stext, tsspure, Model.sl, Model.tr]) (by decide) (fun k st => k ≤ ks.length ∧ st.fr 14 = .i64 k ∧ st.fr 13 = .i64 ks.length ∧ st.fr 12 = ksl ks ∧ st.fr 1 = tsl s ∧ st.fr 5 = .ref 59 [] 1 0 (permL ks s k).length ∧ st.mem 59 = some (itr (permL ks s k))) (ks.length) ?_ ?_
  · simp -dsimp -implicitDefEqProofs (disch := first | omega | (simp only [lenr]; done) | (simp only [lenr]; omega)) only [↓amPre, amAll, ↓reduceIte, reduceCtorEq, Nat.reduceEqDiff, Nat.reduceBEq, Nat.reduceAdd, Nat.reduceLeDiff, Nat.reduceSub, Nat.reduceMul, Int.reduceToNat, List.size_toArray, tyF, MM, bu0, ipure, kpure, tpure, sspure, kset, tset, ksnoc, tsnoc, Kind.av, Twist.sl, Twist.tr, Invar.av, stsize, stget, sttl, stapp, stext, tsspure, Model.sl, Model.tr, nilAs_eq]
    simp [permL]
  rintro k st _ ⟨hk, f14, f13, f12, f1, f5, m59⟩
  have hlen := permL_le (s := s) ps.1 hk
  by_cases hlt : k < ks.length
  · have hk2 := ps.1.2.1 _ (mem_getD ks k default hlt)
    have ta := tw_get ps hlt
    obtain ⟨c, o, hc, ho, la, la', c1, c2, o1, o2⟩ := twOk_facts ta hk2
    have hstep : permL ks s (k + 1) = permL ks s k ++ rowL (permL ks s k).length o (s.getD k default) c := by rw [permL, hc, ho, Int.toNat_natCast]
    generalize hA : s.getD k default = A at ta la la' hstep
    generalize hb : permL ks s k = B at hlen hstep f5 m59
    simp -dsimp -implicitDefEqProofs (disch := first | omega | (simp only [lenr]; done) | (simp only [lenr]; omega)) only [↓amPre, amAll, ↓reduceIte, reduceCtorEq, Nat.reduceEqDiff, Nat.reduceBEq, Nat.reduceAdd, Nat.reduceLeDiff, Nat.reduceSub, Nat.reduceMul, Int.reduceToNat, List.size_toArray, tyF, MM, bu0, ipure, kpure, tpure, sspure, kset, tset, ksnoc, tsnoc, Kind.av, Twist.sl, Twist.tr, Invar.av, stsize, stget, sttl, stapp, stext, tsspure, Model.sl, Model.tr, f14, f13, f12, f1, f5, m59, hA, hc, ho]
    refine callP_of (lenI _) ?_
    simp -dsimp -implicitDefEqProofs (disch := first | omega | (simp only [lenr]; done) | (simp only [lenr]; omega)) only [↓amPre, amAll, ↓reduceIte, reduceCtorEq, Nat.reduceEqDiff, Nat.reduceBEq, Nat.reduceAdd, Nat.reduceLeDiff, Nat.reduceSub, Nat.reduceMul, Int.reduceToNat, List.size_toArray, tyF, MM, bu0, ipure, kpure, tpure, sspure, kset, tset, ksnoc, tsnoc, Kind.av, Twist.sl, Twist.tr, Invar.av, stsize, stget, sttl, stapp, stext, tsspure, Model.sl, Model.tr, f14, f13, f12, f1, f5, m59, hA, hc, ho]
    refine awp_loop (fun i st => i ≤ c ∧ st.fr 27 = .i64 i ∧ st.fr 26 = .i64 c ∧ st.fr 25 = isl A.to ∧ st.fr 6 = .i64 k ∧ st.fr 7 = .loc 7 [] 0 0 ∧ st.fr 8 = .i64 B.length ∧ st.fr 14 = .i64 k ∧ st.fr 13 = .i64 ks.length ∧ st.fr 12 = ksl ks ∧ st.fr 1 = tsl s ∧ st.fr 5 = .ref 59 [] 1 0 (B ++ rowL B.length o A i).length ∧ st.mem 59 = some (itr (B ++ rowL B.length o A i)) ∧ st.mem 7 = some (.pt 2 (.agg [.i64 c, .i64 o]))) (c) ?_ ?_
    · simp -dsimp -implicitDefEqProofs (disch := first | omega | (simp only [lenr]; done) | (simp only [lenr]; omega)) only [↓amPre, amAll, ↓reduceIte, reduceCtorEq, Nat.reduceEqDiff, Nat.reduceBEq, Nat.reduceAdd, Nat.reduceLeDiff, Nat.reduceSub, Nat.reduceMul, Int.reduceToNat, List.size_toArray, tyF, MM, bu0, ipure, kpure, tpure, sspure, kset, tset, ksnoc, tsnoc, Kind.av, Twist.sl, Twist.tr, Invar.av, stsize, stget, sttl, stapp, stext, tsspure, Model.sl, Model.tr, f14, f13, f12, f1, f5, m59, rowL, la]
      simp
    rintro i st _ ⟨hi, f27, f26, f25, f6, f7, f8, f14, f13, f12, f1, f5, m59, m7⟩
    have hrl := rowL_len B.length o A i
    rw [Int.toNat_natCast] at hrl
    have hio := natmul_bound (show i ≤ 20 by omega) o2
    by_cases hlt' : i < c
    · have hx := to_get ta (show i < A.to.length by omega)
      have hy := by_get ta (show i < A.by'.length by omega)
      have hxo := prod_bound hx.1 (show A.to.getD i 0 ≤ 20 by omega) (show (0:Int) ≤ o by omega) (by omega)
      simp -dsimp -implicitDefEqProofs (disch := first | omega | (simp only [lenr]; done) | (simp only [lenr]; omega)) only [↓amPre, amAll, ↓reduceIte, reduceCtorEq, Nat.reduceEqDiff, Nat.reduceBEq, Nat.reduceAdd, Nat.reduceLeDiff, Nat.reduceSub, Nat.reduceMul, Int.reduceToNat, List.size_toArray, tyF, MM, bu0, ipure, kpure, tpure, sspure, kset, tset, ksnoc, tsnoc, Kind.av, Twist.sl, Twist.tr, Invar.av, stsize, stget, sttl, stapp, stext, tsspure, Model.sl, Model.tr, f27, f26, f25, f6, f7, f8, f14, f13, f12, f1, f5, m59, m7]
      refine awp_loop (fun j st => j ≤ o ∧ st.fr 34 = .i64 j ∧ st.fr 33 = .i64 o ∧ st.fr 9 = .i64 i ∧ st.fr 10 = .i64 (A.to.getD i 0) ∧ st.fr 27 = .i64 i ∧ st.fr 26 = .i64 c ∧ st.fr 25 = isl A.to ∧ st.fr 6 = .i64 k ∧ st.fr 7 = .loc 7 [] 0 0 ∧ st.fr 8 = .i64 B.length ∧ st.fr 14 = .i64 k ∧ st.fr 13 = .i64 ks.length ∧ st.fr 12 = ksl ks ∧ st.fr 1 = tsl s ∧ st.fr 5 = .ref 59 [] 1 0 (B ++ rowL B.length o A i ++ cellL B.length o (A.to.getD i 0) (A.by'.getD i 0) j).length ∧ st.mem 59 = some (itr (B ++ rowL B.length o A i ++ cellL B.length o (A.to.getD i 0) (A.by'.getD i 0) j)) ∧ st.mem 7 = some (.pt 2 (.agg [.i64 c, .i64 o]))) (o) ?_ ?_
      · simp -dsimp -implicitDefEqProofs (disch := first | omega | (simp only [lenr]; done) | (simp only [lenr]; omega)) only [↓amPre, amAll, ↓reduceIte, reduceCtorEq, Nat.reduceEqDiff, Nat.reduceBEq, Nat.reduceAdd, Nat.reduceLeDiff, Nat.reduceSub, Nat.reduceMul, Int.reduceToNat, List.size_toArray, tyF, MM, bu0, ipure, kpure, tpure, sspure, kset, tset, ksnoc, tsnoc, Kind.av, Twist.sl, Twist.tr, Invar.av, stsize, stget, sttl, stapp, stext, tsspure, Model.sl, Model.tr, f27, f26, f25, f6, f7, f8, f14, f13, f12, f1, f5, m59, m7, cellL, hrl]
        simp
      rintro j st _ ⟨hj, f34, f33, f9, f10, f27, f26, f25, f6, f7, f8, f14, f13, f12, f1, f5, m59, m7⟩
      have hcl := cellL_len B.length o (A.to.getD i 0) (A.by'.getD i 0) j
      have hll : (B ++ rowL B.length o A i ++ cellL B.length o (A.to.getD i 0) (A.by'.getD i 0) j).length = B.length + i * o + j := by simp only [List.length_append, hrl, hcl]
      by_cases hlt'' : j < o
      · have hcs := cellL_succ B.length o (A.to.getD i 0) (A.by'.getD i 0) j
        have hm1 := Int.tmod_nonneg (o : Int) (show (0:Int) ≤ j + A.by'.getD i 0 by omega)
        have hm2 := Int.tmod_lt_of_pos (j + A.by'.getD i 0) (show (0:Int) < o by omega)
        have hll2 : (B ++ rowL B.length o A i ++ cellL B.length o (A.to.getD i 0) (A.by'.getD i 0) (j + 1)).length = B.length + i * o + j + 1 := by simp only [List.length_append, hrl, cellL_len]; omega
        rw [hll] at f5
        have happ : B ++ rowL B.length o A i ++ cellL B.length o (A.to.getD i 0) (A.by'.getD i 0) j ++ [(B.length : Int) + A.to.getD i 0 * o + ((j : Int) + A.by'.getD i 0).tmod o] = B ++ rowL B.length o A i ++ cellL B.length o (A.to.getD i 0) (A.by'.getD i 0) (j + 1) := by rw [hcs]; simp only [List.append_assoc]
        simp -dsimp -implicitDefEqProofs (disch := first | omega | (simp only [lenr]; done) | (simp only [lenr]; omega)) only [↓amPre, amAll, ↓reduceIte, reduceCtorEq, Nat.reduceEqDiff, Nat.reduceBEq, Nat.reduceAdd, Nat.reduceLeDiff, Nat.reduceSub, Nat.reduceMul, Int.reduceToNat, List.size_toArray, tyF, MM, bu0, ipure, kpure, tpure, sspure, kset, tset, ksnoc, tsnoc, Kind.av, Twist.sl, Twist.tr, Invar.av, stsize, stget, sttl, stapp, stext, tsspure, Model.sl, Model.tr, f34, f33, f9, f10, f27, f26, f25, f6, f7, f8, f14, f13, f12, f1, f5, m59, m7, hA, hll, hll2, happ]
        repeat' (first | omega | rfl | exact i64c (by omega) | exact vic (by omega) | apply And.intro)
      · have hje : j = o := by omega
        subst hje
        have hrs : rowL B.length j A (i + 1) = rowL B.length j A i ++ cellL B.length j (A.to.getD i 0) (A.by'.getD i 0) j := by rw [rowL, Int.toNat_natCast]
        rw [List.append_assoc, ← hrs] at f5 m59
        simp -dsimp -implicitDefEqProofs (disch := first | omega | (simp only [lenr]; done) | (simp only [lenr]; omega)) only [↓amPre, amAll, ↓reduceIte, reduceCtorEq, Nat.reduceEqDiff, Nat.reduceBEq, Nat.reduceAdd, Nat.reduceLeDiff, Nat.reduceSub, Nat.reduceMul, Int.reduceToNat, List.size_toArray, tyF, MM, bu0, ipure, kpure, tpure, sspure, kset, tset, ksnoc, tsnoc, Kind.av, Twist.sl, Twist.tr, Invar.av, stsize, stget, sttl, stapp, stext, tsspure, Model.sl, Model.tr, f34, f33, f9, f10, f27, f26, f25, f6, f7, f8, f14, f13, f12, f1, f5, m59, m7]
        repeat' (first | omega | rfl | exact i64c (by omega) | exact vic (by omega) | apply And.intro)
    · have hie : i = c := by omega
      subst hie
      rw [← hstep] at f5 m59
      simp -dsimp -implicitDefEqProofs (disch := first | omega | (simp only [lenr]; done) | (simp only [lenr]; omega)) only [↓amPre, amAll, ↓reduceIte, reduceCtorEq, Nat.reduceEqDiff, Nat.reduceBEq, Nat.reduceAdd, Nat.reduceLeDiff, Nat.reduceSub, Nat.reduceMul, Int.reduceToNat, List.size_toArray, tyF, MM, bu0, ipure, kpure, tpure, sspure, kset, tset, ksnoc, tsnoc, Kind.av, Twist.sl, Twist.tr, Invar.av, stsize, stget, sttl, stapp, stext, tsspure, Model.sl, Model.tr, f27, f26, f25, f6, f7, f8, f14, f13, f12, f1, f5, m59, m7]
      repeat' (first | omega | rfl | exact i64c (by omega) | exact vic (by omega) | apply And.intro)
  · have hke : k = ks.length := by omega
    subst hke
    simp -dsimp -implicitDefEqProofs (disch := first | omega | (simp only [lenr]; done) | (simp only [lenr]; omega)) only [↓amPre, amAll, ↓reduceIte, reduceCtorEq, Nat.reduceEqDiff, Nat.reduceBEq, Nat.reduceAdd, Nat.reduceLeDiff, Nat.reduceSub, Nat.reduceMul, Int.reduceToNat, List.size_toArray, tyF, MM, bu0, ipure, kpure, tpure, sspure, kset, tset, ksnoc, tsnoc, Kind.av, Twist.sl, Twist.tr, Invar.av, stsize, stget, sttl, stapp, stext, tsspure, Model.sl, Model.tr, f14, f13, f12, f1, f5, m59]
    rfl
def permR (ks : List Kind) (s : List Twist) : List Int := if psOk ks s then permOf ks s else []
theorem permOf_le {ks : List Kind} {s : List Twist} (ps : psOk ks s) : (permOf ks s).length ≤ 20 := permL_le ps.1 (Nat.le_refl _)
end Go.AM
set_option maxRecDepth 8000
namespace Go.AM
open Go.Proofs
def sumI : List Int → Int
  | [] => 0
  | x :: r => x + sumI r
def twS (k : Kind) (t : Twist) : Int := (sumI t.by').tmod k.o
def twR (ks : List Kind) (s : List Twist) (n : Int) : Int := if psOk ks s ∧ 0 ≤ n ∧ n < ks.length then twS (ks.getD n.toNat default) (s.getD n.toNat default) else -1
end Go.AM
namespace Go.AM
/-! cycles, plainly -/
def itN (f : Nat → Nat) : Nat → Nat → Nat
  | 0, x => x
  | k + 1, x => f (itN f k x)
structure PermF (n : Nat) (f : Nat → Nat) : Prop where
  lt : ∀ x, x < n → f x < n
  inj : ∀ x y, x < n → y < n → f x = f y → x = y
section
variable {n : Nat} {f : Nat → Nat}
def perN (n : Nat) (f : Nat → Nat) (x : Nat) : Nat := ((List.range n).find? fun k => itN f (k + 1) x == x).getD 0 + 1
def orbN (n : Nat) (f : Nat → Nat) (x : Nat) : List Nat := (List.range (perN n f x)).map fun i => itN f i x
def minN (n : Nat) (f : Nat → Nat) (x : Nat) : Bool := (orbN n f x).all fun y => decide (x ≤ y)
def cycN (n : Nat) (f : Nat → Nat) : List (List Nat) := ((List.range n).filter (minN n f)).map (orbN n f)
end
def fOf (p : List Int) : Nat → Nat := fun x => (p.getD x 0).toNat
def orbI (p : List Int) (x : Nat) : List Int := (orbN p.length (fOf p) x).map fun (y : Nat) => (y : Int)
def minI (p : List Int) (x : Nat) : Bool := minN p.length (fOf p) x
def cycI (p : List Int) : List (List Int) := ((List.range p.length).filter (minI p)).map (orbI p)
def sgnI (p : List Int) : Int := if (p.length - (cycI p).length) % 2 = 1 then -1 else 1
instance : Thing Bool := ⟨⟩
def seenB (p : List Int) (i y : Nat) : Bool := (List.range i).any fun z => decide (y ∈ orbN p.length (fOf p) z)
def seenJ (p : List Int) (i j : Nat) : List Bool := (List.range p.length).map fun y => seenB p i y || decide (y ∈ (orbN p.length (fOf p) i).take j)
section
variable {p : List Int} (hp : isPerm p)
include hp
end
end Go.AM
set_option maxRecDepth 8000
namespace Go.AM
open Go.Proofs
def itL (p : List Int) (x k : Nat) : List Int := (List.range k).map fun i => ((itN (fOf p) i x : Nat) : Int)
def cycK (p : List Int) (k : Nat) : List (List Int) := ((List.range k).filter (minI p)).map (orbI p)
def longC (L : List (List Int)) : List (List Int) := L.filter fun l => decide (1 < l.length)
end Go.AM
set_option maxRecDepth 8000
namespace Go.AM
open Go.Proofs
def bitK (set : Int) (k : Nat) : Bool := bitsI .and .i64 (set.fdiv (2 ^ (min k 64))) 1 == 1
def oddS (s : List Twist) (set : Int) : Nat → Nat
  | 0 => 0
  | k + 1 => oddS s set k + if bitK set k = true ∧ sgnI (s.getD k default).to < 0 then 1 else 0
def parS (s : List Twist) (set : Int) : Int := ((oddS s set s.length % 2 : Nat) : Int)
def parR (ks : List Kind) (s : List Twist) (set : Int) : Int := if psOk ks s ∧ 1 ≤ set ∧ set ≤ ((2 ^ ks.length : Nat) : Int) - 1 then parS s set else -1
end Go.AM
set_option maxRecDepth 8000
namespace Go.AM
open Go.Proofs
def invV (ks : List Kind) (s : List Twist) (i : Invar) : Int := if i.k = 1 then twR ks s i.s else if i.k = 2 then parR ks s i.s else -1
end Go.AM
set_option maxRecDepth 8000
namespace Go.AM
open Go.Proofs
instance : Thing UInt8 := ⟨⟩
theorem iisNames (l : List UInt8) (hl : l.length ≤ 1099511627776) : SpecAt Try.prog 172 [.st l] (.bl (decide (namesOk l))) := by
  refine spec_of_awp (M := MM) (np := 1) (fz := true) mixed Try.func172 rfl rfl (by decide) rfl (Nat.le_refl _) (by decide +kernel) (.inr ⟨rfl, rfl⟩) trivial ?_
  simp -dsimp -implicitDefEqProofs (disch := first | omega | (simp only [lenr]; done) | (simp only [lenr]; omega)) only [↓amPre, amAll, ↓reduceIte, reduceCtorEq, Nat.reduceEqDiff, Nat.reduceBEq, Nat.reduceAdd, Nat.reduceLeDiff, Nat.reduceSub, Nat.reduceMul, Int.reduceToNat, List.size_toArray, tyF, MM, bu0, ipure, kpure, tpure, sspure, kset, tset, ksnoc, tsnoc, Kind.av, Twist.sl, Twist.tr, Invar.av, stsize, stget, sttl, stapp, stext, tsspure, Model.sl, Model.tr]
  have fin : ∀ b : Bool, (b = true ↔ namesOk l) → Value.bool b = Value.bool (decide (namesOk l)) := fun b h => bl_eq (by rw [h, decide_eq_true_iff])
  refine awp_loop (fun i st => i ≤ l.length ∧ st.fr 7 = .i64 i ∧ st.fr 6 = .i64 l.length ∧ st.fr 0 = .st l ∧ lettersOk (l.take i)) (l.length) ?_ ?_
  · simp -dsimp -implicitDefEqProofs (disch := first | omega | (simp only [lenr]; done) | (simp only [lenr]; omega)) only [↓amPre, amAll, ↓reduceIte, reduceCtorEq, Nat.reduceEqDiff, Nat.reduceBEq, Nat.reduceAdd, Nat.reduceLeDiff, Nat.reduceSub, Nat.reduceMul, Int.reduceToNat, List.size_toArray, tyF, MM, bu0, ipure, kpure, tpure, sspure, kset, tset, ksnoc, tsnoc, Kind.av, Twist.sl, Twist.tr, Invar.av, stsize, stget, sttl, stapp, stext, tsspure, Model.sl, Model.tr]
    simp [lettersOk]
  rintro i st _ ⟨hi, f7, f6, f0, ei⟩
  by_cases hlt : i < l.length
  · have hmem := mem_getD l i 0 hlt
    have hu := u8lt (l.getD i 0)
    have hts := take_succ_eq l i 0 hlt
    simp -dsimp -implicitDefEqProofs (disch := first | omega | (simp only [lenr]; done) | (simp only [lenr]; omega)) only [↓amPre, amAll, ↓reduceIte, reduceCtorEq, Nat.reduceEqDiff, Nat.reduceBEq, Nat.reduceAdd, Nat.reduceLeDiff, Nat.reduceSub, Nat.reduceMul, Int.reduceToNat, List.size_toArray, tyF, MM, bu0, ipure, kpure, tpure, sspure, kset, tset, ksnoc, tsnoc, Kind.av, Twist.sl, Twist.tr, Invar.av, stsize, stget, sttl, stapp, stext, tsspure, Model.sl, Model.tr, f7, f6, f0]
    refine callP_of (iwithin _ _ _) ?_
    cases w : within ((l.getD i 0).toNat : Int) 65 90 with
    | false =>
      simp -dsimp -implicitDefEqProofs (disch := first | omega | (simp only [lenr]; done) | (simp only [lenr]; omega)) only [↓amPre, amAll, ↓reduceIte, reduceCtorEq, Nat.reduceEqDiff, Nat.reduceBEq, Nat.reduceAdd, Nat.reduceLeDiff, Nat.reduceSub, Nat.reduceMul, Int.reduceToNat, List.size_toArray, tyF, MM, bu0, ipure, kpure, tpure, sspure, kset, tset, ksnoc, tsnoc, Kind.av, Twist.sl, Twist.tr, Invar.av, stsize, stget, sttl, stapp, stext, tsspure, Model.sl, Model.tr, w]
      refine fin _ ?_
      rw [within_not] at w
      simp only [reduceCtorEq, false_iff]
      intro q; have := q.1.1 _ hmem; omega
    | true =>
      rw [within_iff] at w
      simp -dsimp -implicitDefEqProofs (disch := first | omega | (simp only [lenr]; done) | (simp only [lenr]; omega)) only [↓amPre, amAll, ↓reduceIte, reduceCtorEq, Nat.reduceEqDiff, Nat.reduceBEq, Nat.reduceAdd, Nat.reduceLeDiff, Nat.reduceSub, Nat.reduceMul, Int.reduceToNat, List.size_toArray, tyF, MM, bu0, ipure, kpure, tpure, sspure, kset, tset, ksnoc, tsnoc, Kind.av, Twist.sl, Twist.tr, Invar.av, stsize, stget, sttl, stapp, stext, tsspure, Model.sl, Model.tr, f7, f6, f0, within_iff.2 w]
      refine awp_loop (fun k st => k ≤ i ∧ st.fr 17 = .i64 k ∧ st.fr 16 = .i64 i ∧ st.fr 3 = .i64 i ∧ st.fr 7 = .i64 i ∧ st.fr 6 = .i64 l.length ∧ st.fr 0 = .st l ∧ ∀ y ∈ l.take k, y ≠ l.getD i 0) (i) ?_ ?_
      · simp -dsimp -implicitDefEqProofs (disch := first | omega | (simp only [lenr]; done) | (simp only [lenr]; omega)) only [↓amPre, amAll, ↓reduceIte, reduceCtorEq, Nat.reduceEqDiff, Nat.reduceBEq, Nat.reduceAdd, Nat.reduceLeDiff, Nat.reduceSub, Nat.reduceMul, Int.reduceToNat, List.size_toArray, tyF, MM, bu0, ipure, kpure, tpure, sspure, kset, tset, ksnoc, tsnoc, Kind.av, Twist.sl, Twist.tr, Invar.av, stsize, stget, sttl, stapp, stext, tsspure, Model.sl, Model.tr, f7, f6, f0]
        simp
      rintro k st _ ⟨hk, f17, f16, f3, f7, f6, f0, ek⟩
      by_cases hk' : k < i
      · have hmk := mem_take_succ (l := l) (d := 0) (p := fun y => y ≠ l.getD i 0) (show k < l.length by omega)
        cases w2 : decide (l.getD k 0 = l.getD i 0) with
        | true =>
          simp -dsimp -implicitDefEqProofs (disch := first | omega | (simp only [lenr]; done) | (simp only [lenr]; omega)) only [↓amPre, amAll, ↓reduceIte, reduceCtorEq, Nat.reduceEqDiff, Nat.reduceBEq, Nat.reduceAdd, Nat.reduceLeDiff, Nat.reduceSub, Nat.reduceMul, Int.reduceToNat, List.size_toArray, tyF, MM, bu0, ipure, kpure, tpure, sspure, kset, tset, ksnoc, tsnoc, Kind.av, Twist.sl, Twist.tr, Invar.av, stsize, stget, sttl, stapp, stext, tsspure, Model.sl, Model.tr, f17, f16, f3, f7, f6, f0, u8eq, w2]
          refine fin _ ?_
          simp only [reduceCtorEq, false_iff]
          intro q
          simp only [decide_eq_true_eq] at w2
          rw [getD_eq _ _ _ (show k < l.length by omega), getD_eq _ _ _ hlt] at w2
          have := (List.getElem_inj q.1.2).1 w2
          omega
        | false =>
          simp -dsimp -implicitDefEqProofs (disch := first | omega | (simp only [lenr]; done) | (simp only [lenr]; omega)) only [↓amPre, amAll, ↓reduceIte, reduceCtorEq, Nat.reduceEqDiff, Nat.reduceBEq, Nat.reduceAdd, Nat.reduceLeDiff, Nat.reduceSub, Nat.reduceMul, Int.reduceToNat, List.size_toArray, tyF, MM, bu0, ipure, kpure, tpure, sspure, kset, tset, ksnoc, tsnoc, Kind.av, Twist.sl, Twist.tr, Invar.av, stsize, stget, sttl, stapp, stext, tsspure, Model.sl, Model.tr, f17, f16, f3, f7, f6, f0, u8eq, w2]
          simp only [decide_eq_false_iff_not] at w2
          repeat' (first | omega | rfl | exact i64c (by omega) | exact vic (by omega) | exact hmk.2 ⟨ek, w2⟩ | apply And.intro)
      · have hke : k = i := by omega
        subst hke
        simp -dsimp -implicitDefEqProofs (disch := first | omega | (simp only [lenr]; done) | (simp only [lenr]; omega)) only [↓amPre, amAll, ↓reduceIte, reduceCtorEq, Nat.reduceEqDiff, Nat.reduceBEq, Nat.reduceAdd, Nat.reduceLeDiff, Nat.reduceSub, Nat.reduceMul, Int.reduceToNat, List.size_toArray, tyF, MM, bu0, ipure, kpure, tpure, sspure, kset, tset, ksnoc, tsnoc, Kind.av, Twist.sl, Twist.tr, Invar.av, stsize, stget, sttl, stapp, stext, tsspure, Model.sl, Model.tr, f17, f16, f3, f7, f6, f0]
        refine ⟨hlt, hlt, ?_, ?_⟩
        · rw [hts]; intro b hb
          rcases List.mem_append.1 hb with hb | hb
          · exact ei.1 b hb
          · rw [List.mem_singleton.1 hb]; omega
        · rw [hts, List.nodup_append]
          refine ⟨ei.2, by simp, ?_⟩
          intro a ha b hb e
          simp only [List.mem_singleton] at hb
          exact ek a ha (e.trans hb)
  · have hie : i = l.length := by omega
    subst hie
    rw [List.take_length] at ei
    simp -dsimp -implicitDefEqProofs (disch := first | omega | (simp only [lenr]; done) | (simp only [lenr]; omega)) only [↓amPre, amAll, ↓reduceIte, reduceCtorEq, Nat.reduceEqDiff, Nat.reduceBEq, Nat.reduceAdd, Nat.reduceLeDiff, Nat.reduceSub, Nat.reduceMul, Int.reduceToNat, List.size_toArray, tyF, MM, bu0, ipure, kpure, tpure, sspure, kset, tset, ksnoc, tsnoc, Kind.av, Twist.sl, Twist.tr, Invar.av, stsize, stget, sttl, stapp, stext, tsspure, Model.sl, Model.tr, f7, f6, f0]
    refine callP_of (iwithin _ _ _) ?_
    simp -dsimp -implicitDefEqProofs (disch := first | omega | (simp only [lenr]; done) | (simp only [lenr]; omega)) only [↓amPre, amAll, ↓reduceIte, reduceCtorEq, Nat.reduceEqDiff, Nat.reduceBEq, Nat.reduceAdd, Nat.reduceLeDiff, Nat.reduceSub, Nat.reduceMul, Int.reduceToNat, List.size_toArray, tyF, MM, bu0, ipure, kpure, tpure, sspure, kset, tset, ksnoc, tsnoc, Kind.av, Twist.sl, Twist.tr, Invar.av, stsize, stget, sttl, stapp, stext, tsspure, Model.sl, Model.tr]
    refine fin _ ?_
    rw [within_iff]
    exact ⟨fun q => ⟨ei, by omega⟩, fun q => by have := q.2; omega⟩
theorem svalidNames (l : List UInt8) (n : Nat) (hl : l.length ≤ 1099511627776) : SpecAt Try.prog 85 [.st l, .i64 n] (.bl (decide (l.length = n ∧ lettersOk l))) := by
  refine spec_of_awp (M := MM) (np := 2) (fz := true) mixed Try.func85 rfl rfl (by decide) rfl (Nat.le_refl _) (by decide +kernel) (.inr ⟨rfl, rfl⟩) trivial ?_
  simp -dsimp -implicitDefEqProofs (disch := first | omega | (simp only [lenr]; done) | (simp only [lenr]; omega)) only [↓amPre, amAll, ↓reduceIte, reduceCtorEq, Nat.reduceEqDiff, Nat.reduceBEq, Nat.reduceAdd, Nat.reduceLeDiff, Nat.reduceSub, Nat.reduceMul, Int.reduceToNat, List.size_toArray, tyF, MM, bu0, ipure, kpure, tpure, sspure, kset, tset, ksnoc, tsnoc, Kind.av, Twist.sl, Twist.tr, Invar.av, stsize, stget, sttl, stapp, stext, tsspure, Model.sl, Model.tr]
  have fin : ∀ b : Bool, (b = true ↔ (l.length = n ∧ lettersOk l)) → Value.bool b = Value.bool (decide (l.length = n ∧ lettersOk l)) := fun b h => bl_eq (by rw [h, decide_eq_true_iff])
  by_cases hn : (l.length : Int) = n
  case neg =>
    simp -dsimp -implicitDefEqProofs (disch := first | omega | (simp only [lenr]; done) | (simp only [lenr]; omega)) only [↓amPre, amAll, ↓reduceIte, reduceCtorEq, Nat.reduceEqDiff, Nat.reduceBEq, Nat.reduceAdd, Nat.reduceLeDiff, Nat.reduceSub, Nat.reduceMul, Int.reduceToNat, List.size_toArray, tyF, MM, bu0, ipure, kpure, tpure, sspure, kset, tset, ksnoc, tsnoc, Kind.av, Twist.sl, Twist.tr, Invar.av, stsize, stget, sttl, stapp, stext, tsspure, Model.sl, Model.tr, ne_true hn]
    refine fin _ ?_
    simp only [reduceCtorEq, false_iff]
    intro q; have := q.1; omega
  have hn' : l.length = n := by omega
  simp -dsimp -implicitDefEqProofs (disch := first | omega | (simp only [lenr]; done) | (simp only [lenr]; omega)) only [↓amPre, amAll, ↓reduceIte, reduceCtorEq, Nat.reduceEqDiff, Nat.reduceBEq, Nat.reduceAdd, Nat.reduceLeDiff, Nat.reduceSub, Nat.reduceMul, Int.reduceToNat, List.size_toArray, tyF, MM, bu0, ipure, kpure, tpure, sspure, kset, tset, ksnoc, tsnoc, Kind.av, Twist.sl, Twist.tr, Invar.av, stsize, stget, sttl, stapp, stext, tsspure, Model.sl, Model.tr, ne_false hn]
  refine awp_loop (fun i st => i ≤ l.length ∧ st.fr 5 = .i64 i ∧ st.fr 0 = .st l ∧ lettersOk (l.take i)) (l.length) ?_ ?_
  · simp -dsimp -implicitDefEqProofs (disch := first | omega | (simp only [lenr]; done) | (simp only [lenr]; omega)) only [↓amPre, amAll, ↓reduceIte, reduceCtorEq, Nat.reduceEqDiff, Nat.reduceBEq, Nat.reduceAdd, Nat.reduceLeDiff, Nat.reduceSub, Nat.reduceMul, Int.reduceToNat, List.size_toArray, tyF, MM, bu0, ipure, kpure, tpure, sspure, kset, tset, ksnoc, tsnoc, Kind.av, Twist.sl, Twist.tr, Invar.av, stsize, stget, sttl, stapp, stext, tsspure, Model.sl, Model.tr]
    simp [lettersOk]
  rintro i st _ ⟨hi, f5, f0, ei⟩
  by_cases hlt : i < l.length
  · have hmem := mem_getD l i 0 hlt
    have hu := u8lt (l.getD i 0)
    have hts := take_succ_eq l i 0 hlt
    by_cases w1 : ((l.getD i 0).toNat : Int) < 65
    · simp -dsimp -implicitDefEqProofs (disch := first | omega | (simp only [lenr]; done) | (simp only [lenr]; omega)) only [↓amPre, amAll, ↓reduceIte, reduceCtorEq, Nat.reduceEqDiff, Nat.reduceBEq, Nat.reduceAdd, Nat.reduceLeDiff, Nat.reduceSub, Nat.reduceMul, Int.reduceToNat, List.size_toArray, tyF, MM, bu0, ipure, kpure, tpure, sspure, kset, tset, ksnoc, tsnoc, Kind.av, Twist.sl, Twist.tr, Invar.av, stsize, stget, sttl, stapp, stext, tsspure, Model.sl, Model.tr, f5, f0, lt_true w1]
      refine fin _ ?_
      simp only [reduceCtorEq, false_iff]
      intro q; have := q.2.1 _ hmem; omega
    by_cases w2 : (90 : Int) < ((l.getD i 0).toNat : Int)
    · simp -dsimp -implicitDefEqProofs (disch := first | omega | (simp only [lenr]; done) | (simp only [lenr]; omega)) only [↓amPre, amAll, ↓reduceIte, reduceCtorEq, Nat.reduceEqDiff, Nat.reduceBEq, Nat.reduceAdd, Nat.reduceLeDiff, Nat.reduceSub, Nat.reduceMul, Int.reduceToNat, List.size_toArray, tyF, MM, bu0, ipure, kpure, tpure, sspure, kset, tset, ksnoc, tsnoc, Kind.av, Twist.sl, Twist.tr, Invar.av, stsize, stget, sttl, stapp, stext, tsspure, Model.sl, Model.tr, f5, f0, lt_false (Int.not_lt.1 w1), lt_true w2]
      refine fin _ ?_
      simp only [reduceCtorEq, false_iff]
      intro q; have := q.2.1 _ hmem; omega
    simp -dsimp -implicitDefEqProofs (disch := first | omega | (simp only [lenr]; done) | (simp only [lenr]; omega)) only [↓amPre, amAll, ↓reduceIte, reduceCtorEq, Nat.reduceEqDiff, Nat.reduceBEq, Nat.reduceAdd, Nat.reduceLeDiff, Nat.reduceSub, Nat.reduceMul, Int.reduceToNat, List.size_toArray, tyF, MM, bu0, ipure, kpure, tpure, sspure, kset, tset, ksnoc, tsnoc, Kind.av, Twist.sl, Twist.tr, Invar.av, stsize, stget, sttl, stapp, stext, tsspure, Model.sl, Model.tr, f5, f0, lt_false (Int.not_lt.1 w1), lt_false (Int.not_lt.1 w2)]
    refine awp_loop (fun k st => k ≤ i ∧ st.fr 6 = .i64 k ∧ st.fr 5 = .i64 i ∧ st.fr 0 = .st l ∧ ∀ y ∈ l.take k, y ≠ l.getD i 0) (i) ?_ ?_
    · simp -dsimp -implicitDefEqProofs (disch := first | omega | (simp only [lenr]; done) | (simp only [lenr]; omega)) only [↓amPre, amAll, ↓reduceIte, reduceCtorEq, Nat.reduceEqDiff, Nat.reduceBEq, Nat.reduceAdd, Nat.reduceLeDiff, Nat.reduceSub, Nat.reduceMul, Int.reduceToNat, List.size_toArray, tyF, MM, bu0, ipure, kpure, tpure, sspure, kset, tset, ksnoc, tsnoc, Kind.av, Twist.sl, Twist.tr, Invar.av, stsize, stget, sttl, stapp, stext, tsspure, Model.sl, Model.tr, f5, f0]
      simp
    rintro k st _ ⟨hk, f6, f5, f0, ek⟩
    by_cases hk' : k < i
    · have hmk := mem_take_succ (l := l) (d := 0) (p := fun y => y ≠ l.getD i 0) (show k < l.length by omega)
      cases w2 : decide (l.getD k 0 = l.getD i 0) with
      | true =>
        simp -dsimp -implicitDefEqProofs (disch := first | omega | (simp only [lenr]; done) | (simp only [lenr]; omega)) only [↓amPre, amAll, ↓reduceIte, reduceCtorEq, Nat.reduceEqDiff, Nat.reduceBEq, Nat.reduceAdd, Nat.reduceLeDiff, Nat.reduceSub, Nat.reduceMul, Int.reduceToNat, List.size_toArray, tyF, MM, bu0, ipure, kpure, tpure, sspure, kset, tset, ksnoc, tsnoc, Kind.av, Twist.sl, Twist.tr, Invar.av, stsize, stget, sttl, stapp, stext, tsspure, Model.sl, Model.tr, f6, f5, f0, u8eq, w2]
        refine fin _ ?_
        simp only [reduceCtorEq, false_iff]
        intro q
        simp only [decide_eq_true_eq] at w2
        rw [getD_eq _ _ _ (show k < l.length by omega), getD_eq _ _ _ hlt] at w2
        have := (List.getElem_inj q.2.2).1 w2
        omega
      | false =>
        simp -dsimp -implicitDefEqProofs (disch := first | omega | (simp only [lenr]; done) | (simp only [lenr]; omega)) only [↓amPre, amAll, ↓reduceIte, reduceCtorEq, Nat.reduceEqDiff, Nat.reduceBEq, Nat.reduceAdd, Nat.reduceLeDiff, Nat.reduceSub, Nat.reduceMul, Int.reduceToNat, List.size_toArray, tyF, MM, bu0, ipure, kpure, tpure, sspure, kset, tset, ksnoc, tsnoc, Kind.av, Twist.sl, Twist.tr, Invar.av, stsize, stget, sttl, stapp, stext, tsspure, Model.sl, Model.tr, f6, f5, f0, u8eq, w2]
        simp only [decide_eq_false_iff_not] at w2
        repeat' (first | omega | rfl | exact i64c (by omega) | exact vic (by omega) | exact hmk.2 ⟨ek, w2⟩ | apply And.intro)
    · have hke : k = i := by omega
      subst hke
      simp -dsimp -implicitDefEqProofs (disch := first | omega | (simp only [lenr]; done) | (simp only [lenr]; omega)) only [↓amPre, amAll, ↓reduceIte, reduceCtorEq, Nat.reduceEqDiff, Nat.reduceBEq, Nat.reduceAdd, Nat.reduceLeDiff, Nat.reduceSub, Nat.reduceMul, Int.reduceToNat, List.size_toArray, tyF, MM, bu0, ipure, kpure, tpure, sspure, kset, tset, ksnoc, tsnoc, Kind.av, Twist.sl, Twist.tr, Invar.av, stsize, stget, sttl, stapp, stext, tsspure, Model.sl, Model.tr, f6, f5, f0]
      refine ⟨hlt, hlt, ?_, ?_⟩
      · rw [hts]; intro b hb
        rcases List.mem_append.1 hb with hb | hb
        · exact ei.1 b hb
        · rw [List.mem_singleton.1 hb]; omega
      · rw [hts, List.nodup_append]
        refine ⟨ei.2, by simp, ?_⟩
        intro a ha b hb e
        simp only [List.mem_singleton] at hb
        exact ek a ha (e.trans hb)
  · have hie : i = l.length := by omega
    subst hie
    rw [List.take_length] at ei
    simp -dsimp -implicitDefEqProofs (disch := first | omega | (simp only [lenr]; done) | (simp only [lenr]; omega)) only [↓amPre, amAll, ↓reduceIte, reduceCtorEq, Nat.reduceEqDiff, Nat.reduceBEq, Nat.reduceAdd, Nat.reduceLeDiff, Nat.reduceSub, Nat.reduceMul, Int.reduceToNat, List.size_toArray, tyF, MM, bu0, ipure, kpure, tpure, sspure, kset, tset, ksnoc, tsnoc, Kind.av, Twist.sl, Twist.tr, Invar.av, stsize, stget, sttl, stapp, stext, tsspure, Model.sl, Model.tr, f5, f0]
    refine fin _ ?_
    simp only [true_iff]
    exact ⟨hn', ei⟩
end Go.AM
namespace Go.AM
/-! sizes of moves -/
def sizeLL (l : List (List Twist)) : Nat := match l with | [] => 0 | a :: r => 1 + sizeL a + sizeLL r
theorem sizeLL_append : ∀ a b : List (List Twist), sizeLL (a ++ b) = sizeLL a + sizeLL b
  | [], b => by simp [sizeLL]
  | x :: r, b => by simp only [List.cons_append, sizeLL, sizeLL_append r b]; omega
theorem sizeLL_take (l : List (List Twist)) (i : Nat) (h : i < l.length) : sizeLL (l.take (i + 1)) = sizeLL (l.take i) + 1 + sizeL (l.getD i default) := by
  rw [take_succ_eq l i default h, sizeLL_append]; simp [sizeLL]; omega
theorem sizeLL_le (l : List (List Twist)) (i : Nat) : sizeLL (l.take i) ≤ sizeLL l := by
  have := sizeLL_append (l.take i) (l.drop i)
  rw [List.take_append_drop] at this
  omega
theorem sizeLL_len : ∀ l : List (List Twist), l.length ≤ sizeLL l
  | [] => by simp [sizeLL]
  | a :: r => by have := sizeLL_len r; simp only [sizeLL, List.length_cons]; omega
theorem sizeLL_take_ge (l : List (List Twist)) (i : Nat) (h : i ≤ l.length) : i ≤ sizeLL (l.take i) := by
  have := sizeLL_len (l.take i); rw [List.length_take] at this; omega
theorem sizeLL_mem : ∀ {l : List (List Twist)} {a : List Twist}, a ∈ l → sizeL a ≤ sizeLL l
  | b :: r, a, h => by
    rcases List.mem_cons.1 h with rfl | h
    · simp only [sizeLL]; omega
    · have := sizeLL_mem h; simp only [sizeLL]; omega
theorem cnts_LL : ∀ l : List (List Twist), cnts l ≤ sizeLL l
  | [] => by simp [cnts]
  | a :: r => by
    have := cnts_LL r
    have e : Mk.cnt a = cnts a := rfl
    simp only [cnts, sizeLL, e, sizeL]; omega
end Go.AM

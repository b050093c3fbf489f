/-
  CONTRACTS of functions of the program, and what they compute, by content.
-/
import Derived.Test.YtnaiohbeejhpkaaDoorM2Tool
import Derived.Test.YtnaiohbeejhpkaaDoorM2Facts
import Derived.Test.YtnaiohbeejhpkaaDoorM2SC
import Derived.Sort.Grow
import Derived.Deep.Draws
import Derived.Lib.LaidTab
import Derived.Lib.Join
import Derived.Lib.ItoaLen
import Derived.Shelf.Strconv.Itoa4
import Derived.Shelf.Strings.OnBuilder
import Derived.Lib.ItoaNum
set_option linter.unusedVariables false
set_option linter.unusedSimpArgs false
namespace Go.AM
/-! content: lists of numbers, lists of things -/
abbrev ints (l : List Int) : List AV := l.map AV.i64
abbrev isl (l : List Int) : AV := .sl 1 (l.map AV.i64)
abbrev itr (l : List Int) : AV := .tr 1 (l.map AV.i64)
/-- the types whose lists are looked into (but for numbers) -/
class Thing (α : Type) extends Inhabited α
instance : Thing (List Int) := ⟨⟩
instance : Thing (List (List Int)) := ⟨⟩
theorem gm {α : Type} [Thing α] (f : α → AV) (l : List α) (i : Nat) (h : i < l.length) : (l.map f).getD i .any = f (l.getD i default) := by
  simp [List.getD, h]
theorem gi (l : List Int) (i : Nat) (h : i < l.length) : (l.map AV.i64).getD i .any = .i64 (l.getD i 0) := by
  simp [List.getD, h]
theorem set_map {α : Type} (f : α → AV) (l : List α) (i : Nat) (x : α) : (l.map f).set i (f x) = (l.set i x).map f := by
  rw [List.map_set]
theorem map_snoc {α : Type} (f : α → AV) (l : List α) (x : α) : l.map f ++ [f x] = (l ++ [x]).map f := by simp
theorem map_take {α : Type} (f : α → AV) (l : List α) (n : Nat) : (l.map f).take n = (l.take n).map f := by rw [List.map_take]
theorem map_drop {α : Type} (f : α → AV) (l : List α) (n : Nat) : (l.map f).drop n = (l.drop n).map f := by rw [List.map_drop]
theorem take_map_all {α : Type} (f : α → AV) (l : List α) (n : Nat) (h : n = l.length) : (l.map f).take n = l.map f := by
  rw [List.take_of_length_le]; simp; omega
theorem ints_fz (l : List Int) : (l.map AV.i64).map AV.fz = l.map AV.i64 := by simp [fz_v]
theorem i64c {a b : Int} (h : a = b) : AV.i64 a = AV.i64 b := by rw [h]
theorem vic {k : IntKind} {a b : Int} (h : a = b) : Value.int k a = Value.int k b := by rw [h]
theorem cast1 (j : Nat) : ((j : Int) + 1) = ((j + 1 : Nat) : Int) := by simp
theorem bl_eq {a b : Bool} (h : a = true ↔ b = true) : Value.bool a = Value.bool b := by rw [Bool.eq_iff_iff.2 h]
theorem getD_eq {α : Type} (l : List α) (i : Nat) (d : α) (h : i < l.length) : l.getD i d = l[i] := by simp [List.getD, h]
theorem take_succ_eq {α : Type} (l : List α) (i : Nat) (d : α) (h : i < l.length) : l.take (i + 1) = l.take i ++ [l.getD i d] := by
  rw [List.take_succ_eq_append_getElem h, getD_eq l i d h]
theorem mem_take_succ {α : Type} {l : List α} {i : Nat} {d : α} (h : i < l.length) {p : α → Prop} : (∀ x ∈ l.take (i + 1), p x) ↔ (∀ x ∈ l.take i, p x) ∧ p (l.getD i d) := by
  rw [take_succ_eq l i d h]
  constructor
  · intro q; exact ⟨fun x hx => q x (by simp [hx]), q _ (by simp)⟩
  · rintro ⟨q1, q2⟩ x hx
    rcases List.mem_append.1 hx with hx | hx
    · exact q1 x hx
    · rw [List.mem_singleton.1 hx]; exact q2
theorem take_eq_iff {α : Type} {a b : List α} (d : α) (k : Nat) (hk : k < a.length) (hk' : k < b.length) : a.take (k + 1) = b.take (k + 1) ↔ a.take k = b.take k ∧ a.getD k d = b.getD k d := by
  rw [take_succ_eq a k d hk, take_succ_eq b k d hk']
  constructor
  · intro h
    obtain ⟨h1, h2⟩ := List.append_inj h (by simp; omega)
    exact ⟨h1, by simpa using h2⟩
  · rintro ⟨h1, h2⟩; rw [h1, h2]
theorem eq_of_takes {α : Type} {a b : List α} (hl : a.length = b.length) (h : a.take a.length = b.take a.length) : a = b := by
  have e1 : a.take a.length = a := List.take_length
  have e2 : b.take a.length = b := by rw [hl]; exact List.take_length
  rw [← e1, ← e2]; exact h
/-- numbers one behind the other -/
def runI (k : Int) (n : Nat) : List Int := (List.range n).map fun i => k + (i : Nat)
theorem runI_len (k : Int) (n : Nat) : (runI k n).length = n := by simp [runI]
def mixL {α : Type} (a b : List α) (n : Nat) : List α := a.take n ++ b.drop n
theorem mixL_zero {α : Type} (a b : List α) : mixL a b 0 = b := by simp [mixL]
theorem mixL_all {α : Type} (a b : List α) (n : Nat) (h : a.length ≤ n) (h' : b.length ≤ n) : mixL a b n = a := by
  simp [mixL, List.take_of_length_le h, List.drop_of_length_le h']
theorem mixL_len {α : Type} (a b : List α) (n : Nat) (h : a.length = b.length) : (mixL a b n).length = b.length := by
  simp [mixL]; omega
theorem mixL_set {α : Type} (a b : List α) (n : Nat) (d : α) (h : a.length = b.length) (hn : n < b.length) : (mixL a b n).set n (a.getD n d) = mixL a b (n + 1) := by
  apply List.ext_getElem
  · simp [mixL]; omega
  · intro i h1 h2
    simp only [mixL, List.getElem_set, List.getElem_append, List.length_take, List.getElem_take, List.getElem_drop]
    have hd : a.getD n d = a[n]'(by omega) := getD_eq a n d (by omega)
    by_cases e : n = i
    · subst e; rw [if_pos rfl, dif_pos (by omega)]; exact hd
    · by_cases hlt : i < n
      · rw [if_neg e, dif_pos (by omega), dif_pos (by omega)]
      · rw [if_neg e, dif_neg (by omega), dif_neg (by omega)]
        congr 1; omega
def szR (k : Int) (n : Nat) : Int := if k - n < 0 then -1 else k - n
theorem szR_neg {k : Int} {n : Nat} (h : k - n < 0) : szR k n = -1 := if_pos h
theorem szR_pos {k : Int} {n : Nat} (h : 0 ≤ k - n) : szR k n = k - n := if_neg (by omega)
def within (x lo hi : Int) : Bool := decide (lo ≤ x) && decide (x ≤ hi)
theorem within_iff {x lo hi : Int} : within x lo hi = true ↔ lo ≤ x ∧ x ≤ hi := by simp [within]
theorem within_not {x lo hi : Int} : within x lo hi = false ↔ ¬ (lo ≤ x ∧ x ≤ hi) := by rw [← within_iff]; simp
theorem map_fz {α : Type} (f g : α → AV) (l : List α) (h : ∀ a, (f a).fz = g a) : (l.map f).map AV.fz = l.map g := by
  rw [List.map_map]; exact List.map_congr_left fun a _ => h a
theorem getD_set_same {α : Type} (l : List α) (i : Nat) (x d : α) (h : i < l.length) : (l.set i x).getD i d = x := by simp [List.getD, h]
class Mk (α : Type) extends Thing α where
  mrk : Int → α → α
  cnt : α → Nat
instance : Mk (List Int) := { mrk := fun k l => runI k l.length, cnt := List.length }
section
variable {α : Type} [Mk α]
def mks (k : Int) : List α → List α
  | [] => []
  | a :: r => Mk.mrk k a :: mks (k + Mk.cnt a) r
def cnts : List α → Nat
  | [] => 0
  | a :: r => Mk.cnt a + cnts r
theorem mks_len : ∀ (k : Int) (l : List α), (mks k l).length = l.length
  | _, [] => rfl
  | k, a :: r => by rw [mks, List.length_cons, List.length_cons, mks_len]
theorem cnts_append : ∀ (l m : List α), cnts (l ++ m) = cnts l + cnts m
  | [], m => by simp [cnts]
  | a :: r, m => by simp [cnts, cnts_append r m]; omega
theorem cnts_take (l : List α) (i : Nat) (h : i < l.length) : cnts (l.take (i + 1)) = cnts (l.take i) + Mk.cnt (l.getD i default) := by
  rw [take_succ_eq l i default h, cnts_append]; simp [cnts]
theorem cnts_le (l : List α) (i : Nat) : cnts (l.take i) ≤ cnts l := by
  have := cnts_append (l.take i) (l.drop i)
  rw [List.take_append_drop] at this
  omega
theorem cnts_le1 (l : List α) (i : Nat) (h : i < l.length) : cnts (l.take i) + Mk.cnt (l.getD i default) ≤ cnts l := by
  rw [← cnts_take l i h]; exact cnts_le l _
theorem cnts_mem : ∀ {l : List α} {a : α}, a ∈ l → Mk.cnt a ≤ cnts l
  | b :: r, a, h => by
    rcases List.mem_cons.1 h with rfl | h
    · simp [cnts]
    · have := cnts_mem h; simp only [cnts]; omega
instance : Mk (List α) := { mrk := mks, cnt := cnts }
end
def sizeL {α : Type} [Mk α] (l : List α) : Nat := l.length + cnts l
theorem mem_getD {α : Type} (l : List α) (i : Nat) (d : α) (h : i < l.length) : l.getD i d ∈ l := by rw [getD_eq l i d h]; exact List.getElem_mem h
theorem hdV (x d : Value) (l : List Value) : (x :: l).headD d = x := rfl
theorem repI (n : Nat) (x : Int) : List.replicate n (AV.v (.int .i64 x)) = (List.replicate n x).map AV.i64 := by simp
theorem bbeq (b : Bool) : (b == b) = true := by cases b <;> rfl
theorem lenr : type_of% (And.intro (@List.length_map.{0,0}) (And.intro (@List.length_set.{0}) (And.intro (@List.length_append.{0}) (And.intro (@List.length_cons.{0}) (And.intro (@List.length_nil.{0}) (And.intro (@List.length_replicate.{0}) (And.intro (@List.length_take.{0}) (And.intro runI_len (And.intro (@mks_len) (And.intro (@List.length_range) (@List.length_drop.{0}))))))))))) :=
  And.intro (@List.length_map.{0,0}) (And.intro (@List.length_set.{0}) (And.intro (@List.length_append.{0}) (And.intro (@List.length_cons.{0}) (And.intro (@List.length_nil.{0}) (And.intro (@List.length_replicate.{0}) (And.intro (@List.length_take.{0}) (And.intro runI_len (And.intro (@mks_len) (And.intro (@List.length_range) (@List.length_drop.{0}))))))))))
theorem bu0 : type_of% (And.intro gi (And.intro @gm (And.intro @set_map (And.intro @map_snoc (And.intro @take_map_all (And.intro @map_take (And.intro @map_drop (And.intro ints_fz (And.intro cast1 (And.intro @getD_set_same (And.intro (@List.set_set.{0}) (And.intro hdV (And.intro repI (And.intro (@List.take_of_length_le.{0}) bbeq)))))))))))))) :=
  And.intro gi (And.intro @gm (And.intro @set_map (And.intro @map_snoc (And.intro @take_map_all (And.intro @map_take (And.intro @map_drop (And.intro ints_fz (And.intro cast1 (And.intro @getD_set_same (And.intro (@List.set_set.{0}) (And.intro hdV (And.intro repI (And.intro (@List.take_of_length_le.{0}) bbeq)))))))))))))
end Go.AM
namespace Go.AM
/-! permutations, plainly -/
def isPerm (p : List Int) : Prop := (1 ≤ p.length ∧ p.length ≤ 20) ∧ (∀ x ∈ p, 0 ≤ x ∧ x < p.length) ∧ p.Nodup
instance (p : List Int) : Decidable (isPerm p) := by unfold isPerm; infer_instance
theorem len_le_of_sub {α : Type} [DecidableEq α] : ∀ (a b : List α), a.Nodup → (∀ x ∈ a, x ∈ b) → a.length ≤ b.length
  | [], _, _, _ => Nat.zero_le _
  | x :: a, b, hn, hs => by
    have hx := hs x (by simp)
    have h1 := len_le_of_sub a (b.erase x) (List.nodup_cons.1 hn).2 fun y hy => (List.mem_erase_of_ne (by rintro rfl; exact (List.nodup_cons.1 hn).1 hy)).2 (hs y (by simp [hy]))
    rw [List.length_erase_of_mem hx] at h1
    have : 0 < b.length := List.length_pos_of_mem hx
    simp; omega
theorem dup_of_not_nodup {α : Type} [DecidableEq α] : ∀ (p : List α), ¬ p.Nodup → ∃ x, x ∈ p.erase x
  | [], h => (h List.nodup_nil).elim
  | a :: r, h => by
    by_cases ha : a ∈ r
    · exact ⟨a, by simpa using ha⟩
    · obtain ⟨x, hx⟩ := dup_of_not_nodup r fun q => h (List.nodup_cons.2 ⟨ha, q⟩)
      refine ⟨x, ?_⟩
      have : x ≠ a := by rintro rfl; exact ha (List.mem_of_mem_erase hx)
      rw [List.erase_cons, if_neg (by simpa using fun e => this e.symm)]
      simp [hx]
/-- among n numbers below n: none twice iff each once -/
theorem nodup_iff_all (p : List Nat) (n : Nat) (hl : p.length = n) (hlt : ∀ x ∈ p, x < n) : p.Nodup ↔ ∀ i, i < n → i ∈ p := by
  constructor
  · intro hn i hi
    apply Decidable.byContradiction
    intro hni
    have := len_le_of_sub p ((List.range n).erase i) hn fun x hx => (List.mem_erase_of_ne (by rintro rfl; exact hni hx)).2 (List.mem_range.2 (hlt x hx))
    rw [List.length_erase_of_mem (List.mem_range.2 hi), List.length_range] at this
    omega
  · intro h
    apply Decidable.byContradiction
    intro hn
    obtain ⟨x, hx⟩ := dup_of_not_nodup p hn
    have hxp := List.mem_of_mem_erase hx
    have := len_le_of_sub (List.range n) (p.erase x) List.nodup_range fun y hy => by
      by_cases e : y = x
      · subst e; exact hx
      · exact (List.mem_erase_of_ne e).2 (h y (List.mem_range.1 hy))
    rw [List.length_erase_of_mem hxp, List.length_range] at this
    have := List.length_pos_of_mem hxp
    omega
/-- the bits of the numbers of a list -/
def maskN : List Nat → Nat
  | [] => 0
  | x :: r => (2 ^ x) ||| maskN r
theorem maskN_bit (l : List Nat) (i : Nat) : (maskN l).testBit i = true ↔ i ∈ l := by
  induction l with
  | nil => simp [maskN]
  | cons x r ih => rw [maskN, Nat.testBit_or, Bool.or_eq_true, ih, Nat.testBit_two_pow]; simp [eq_comm]
theorem maskN_snoc (l : List Nat) (x : Nat) : maskN (l ++ [x]) = maskN l ||| 2 ^ x := by
  apply Nat.eq_of_testBit_eq; intro i
  rw [Bool.eq_iff_iff, Nat.testBit_or, Bool.or_eq_true, maskN_bit, maskN_bit, Nat.testBit_two_pow]; simp [eq_comm]
theorem maskN_lt (l : List Nat) (n : Nat) (h : ∀ x ∈ l, x < n) : maskN l < 2 ^ n := by
  induction l with
  | nil => simp [maskN]; exact Nat.pow_pos (by decide)
  | cons x r ih => exact Nat.or_lt_two_pow (Nat.pow_lt_pow_right (by decide) (h x (by simp))) (ih fun y hy => h y (by simp [hy]))
theorem maskN_full (l : List Nat) (n : Nat) (h : ∀ x ∈ l, x < n) : maskN l = 2 ^ n - 1 ↔ ∀ i, i < n → i ∈ l := by
  constructor
  · intro e i hi
    rw [← maskN_bit, e, Nat.testBit_two_pow_sub_one]; simpa using hi
  · intro q
    apply Nat.eq_of_testBit_eq; intro i
    rw [Bool.eq_iff_iff, maskN_bit, Nat.testBit_two_pow_sub_one, decide_eq_true_iff]
    exact ⟨fun hi => h i hi, q i⟩
def mask (p : List Int) : Nat := maskN (p.map Int.toNat)
theorem mask_snoc (l : List Int) (x : Int) : mask (l ++ [x]) = mask l ||| 2 ^ x.toNat := by simp [mask, maskN_snoc]
theorem mask_perm (p : List Int) (h : ∀ x ∈ p, 0 ≤ x ∧ x < p.length) : mask p = 2 ^ p.length - 1 ↔ p.Nodup := by
  have hlt : ∀ x ∈ p.map Int.toNat, x < p.length := by
    intro x hx
    obtain ⟨y, hy, rfl⟩ := List.mem_map.1 hx
    have := h y hy; omega
  rw [mask, maskN_full _ _ hlt, ← nodup_iff_all _ _ (by simp) hlt, List.Nodup, List.Nodup, List.pairwise_map]
  constructor
  · intro q; exact q.imp fun hab e => hab (by rw [e])
  · intro q
    refine (List.Pairwise.imp_of_mem ?_ q)
    intro a b ha hb hab e
    have := h a ha; have := h b hb; exact hab (by omega)
theorem mask_lt (p : List Int) (n : Nat) (h : ∀ x ∈ p, 0 ≤ x ∧ x < n) : mask p < 2 ^ n := by
  apply maskN_lt
  intro x hx
  obtain ⟨y, hy, rfl⟩ := List.mem_map.1 hx
  have := h y hy; omega
theorem bits_or (a b : Nat) (ha : a < 2 ^ 62) (hb : b < 2 ^ 62) : bitsI .or .i64 (a : Int) (b : Int) = ((a ||| b : Nat) : Int) := by
  have h1 : a ||| b < 2 ^ 62 := Nat.or_lt_two_pow ha hb
  have e1 : (BitVec.ofInt 64 (a : Int)).toNat = a := by rw [BitVec.toNat_ofInt]; omega
  have e2 : (BitVec.ofInt 64 (b : Int)).toNat = b := by rw [BitVec.toNat_ofInt]; omega
  show IntKind.i64.wrap ((BitVec.ofInt 64 (a : Int) ||| BitVec.ofInt 64 (b : Int)).toNat : Int) = _
  rw [BitVec.toNat_or, e1, e2]
  apply wrap64_id; omega
end Go.AM
namespace Go.AM
/-! kinds, plainly -/
structure Kind where
  c : Int
  o : Int
  deriving DecidableEq
instance : Mk Kind := { default := ⟨0, 0⟩, mrk := fun k _ => ⟨k, k + 1⟩, cnt := fun _ => 2 }
structure Twist where
  to : List Int
  by' : List Int
  deriving DecidableEq
instance : Mk Twist := { default := ⟨[], []⟩, mrk := fun k t => ⟨runI k t.to.length, runI (k + t.to.length) t.by'.length⟩, cnt := fun t => t.to.length + t.by'.length }
def kOk (k : Kind) : Prop := (1 ≤ k.c ∧ k.c ≤ 20) ∧ (1 ≤ k.o ∧ k.o ≤ 20)
instance (k : Kind) : Decidable (kOk k) := by unfold kOk; infer_instance
def facets : List Kind → Int
  | [] => 0
  | k :: r => k.c * k.o + facets r
theorem facets_append : ∀ a b : List Kind, facets (a ++ b) = facets a + facets b
  | [], b => by simp [facets]
  | k :: r, b => by simp only [List.cons_append, facets, facets_append r b]; omega
theorem facets_take (l : List Kind) (i : Nat) (h : i < l.length) : facets (l.take (i + 1)) = facets (l.take i) + (l.getD i default).c * (l.getD i default).o := by
  rw [take_succ_eq l i default h, facets_append]; simp [facets]
theorem kOk_prod {k : Kind} (h : kOk k) : 1 ≤ k.c * k.o ∧ k.c * k.o ≤ 400 ∧ k.c ≤ k.c * k.o ∧ k.o ≤ k.c * k.o := by
  obtain ⟨⟨h1, h2⟩, h3, h4⟩ := h
  have a1 : 1 * 1 ≤ k.c * k.o := Int.mul_le_mul h1 h3 (by omega) (by omega)
  have a2 : k.c * k.o ≤ 20 * 20 := Int.mul_le_mul h2 h4 (by omega) (by omega)
  have a3 : k.c * 1 ≤ k.c * k.o := Int.mul_le_mul_of_nonneg_left h3 (by omega)
  have a4 : 1 * k.o ≤ k.c * k.o := Int.mul_le_mul_of_nonneg_right h1 (by omega)
  omega
theorem facets_bound : ∀ l : List Kind, (∀ k ∈ l, kOk k) → (l.length : Int) ≤ facets l ∧ facets l ≤ 400 * l.length
  | [], _ => by simp [facets]
  | k :: r, h => by
    have h1 := facets_bound r fun x hx => h x (by simp [hx])
    have h2 := kOk_prod (h k (by simp))
    simp only [facets, List.length_cons]; omega
def kindsOk (l : List Kind) : Prop := (1 ≤ l.length ∧ l.length ≤ 3) ∧ (∀ k ∈ l, kOk k) ∧ facets l ≤ 20
instance (l : List Kind) : Decidable (kindsOk l) := by unfold kindsOk; infer_instance
def fct : Nat → Nat
  | 0 => 1
  | n + 1 => (n + 1) * fct n
def stK (o : Nat) : Nat → Nat
  | 0 => 1
  | j + 1 => stK o j * ((j + 1) * o)
def stC : List Kind → Nat
  | [] => 1
  | k :: r => stK k.o.toNat k.c.toNat * stC r
def twOk (k : Kind) (t : Twist) : Prop := (t.to.length : Int) = k.c ∧ (t.by'.length : Int) = k.c ∧ isPerm t.to ∧ ∀ x ∈ t.by', 0 ≤ x ∧ x < k.o
instance (k : Kind) (t : Twist) : Decidable (twOk k t) := by unfold twOk; infer_instance
def psOk (ks : List Kind) (s : List Twist) : Prop := kindsOk ks ∧ s.length = ks.length ∧ ∀ i, i < ks.length → twOk (ks.getD i default) (s.getD i default)
instance (ks : List Kind) (s : List Twist) : Decidable (psOk ks s) := by unfold psOk; infer_instance
def Kind.av (k : Kind) : AV := .agg [.i64 k.c, .i64 k.o]
abbrev ksl (ks : List Kind) : AV := .sl 2 (ks.map Kind.av)
abbrev ktr (ks : List Kind) : AV := .tr 2 (ks.map Kind.av)
theorem kset (ks : List Kind) (i : Nat) (a b : Int) : (ks.map Kind.av).set i (.agg [.i64 a, .i64 b]) = (ks.set i ⟨a, b⟩).map Kind.av := by rw [List.map_set]; rfl
theorem ksnoc (ks : List Kind) (a b : Int) : ks.map Kind.av ++ [.agg [.i64 a, .i64 b]] = (ks ++ [(⟨a, b⟩ : Kind)]).map Kind.av := by simp [Kind.av]
theorem pureL_map {α : Type} (f : α → AV) (h : ∀ a, (f a).pure = true) : ∀ l : List α, AV.pureL (l.map f) = true
  | [] => rfl
  | a :: r => by rw [List.map_cons, AV.pureL, h, pureL_map f h r]; rfl
theorem ipure (l : List Int) : AV.pureL (l.map AV.i64) = true := pureL_map _ (fun _ => rfl) l
abbrev ssl (l : List (List Int)) : AV := .sl 1 (l.map isl)
abbrev sst (l : List (List Int)) : AV := .tr 1 (l.map itr)
theorem sspure (l : List (List Int)) : AV.pureL (l.map itr) = true := pureL_map _ (fun t => by simp [itr, AV.pure, ipure]) l
theorem kpure (l : List Kind) : AV.pureL (l.map Kind.av) = true := pureL_map _ (fun _ => rfl) l
theorem kfz (ks : List Kind) : (ks.map Kind.av).map AV.fz = ks.map Kind.av := by
  rw [List.map_map]; exact List.map_congr_left fun a _ => by simp [Kind.av, fz_v, AV.fz, AV.fzL]
def Twist.sl (t : Twist) : AV := .agg [isl t.to, isl t.by']
def Twist.tr (t : Twist) : AV := .agg [itr t.to, itr t.by']
abbrev tsl (ts : List Twist) : AV := .sl 2 (ts.map Twist.sl)
abbrev ttr (ts : List Twist) : AV := .tr 2 (ts.map Twist.tr)
theorem tset (ts : List Twist) (i : Nat) (a b : List Int) : (ts.map Twist.tr).set i (.agg [itr a, itr b]) = (ts.set i ⟨a, b⟩).map Twist.tr := by rw [List.map_set]; rfl
theorem tsnoc (ts : List Twist) (a b : List Int) : ts.map Twist.tr ++ [.agg [itr a, itr b]] = (ts ++ [(⟨a, b⟩ : Twist)]).map Twist.tr := by simp [Twist.tr]
theorem tpure (l : List Twist) : AV.pureL (l.map Twist.tr) = true := pureL_map _ (fun t => by simp [Twist.tr, AV.pure, AV.pureL, ipure]) l
theorem tfz (ts : List Twist) : (ts.map Twist.tr).map AV.fz = ts.map Twist.sl := by
  rw [List.map_map]; exact List.map_congr_left fun a _ => by simp [Twist.tr, Twist.sl, AV.fz, AV.fzL, fzL_map, ints_fz]
structure Invar where
  k : Int
  s : Int
  deriving DecidableEq
instance : Mk Invar := { default := ⟨0, 0⟩, mrk := fun k _ => ⟨k, k + 1⟩, cnt := fun _ => 2 }
def Invar.av (i : Invar) : AV := .agg [.i64 i.k, .i64 i.s]
end Go.AM
namespace Go.AM
/-! texts -/
theorem stsize (l : List UInt8) : ByteArray.size ⟨l.toArray⟩ = l.length := rfl
theorem stget (l : List UInt8) (i : Nat) (d : UInt8) : (ByteArray.mk l.toArray).data.toList.getD i d = l.getD i d := rfl
theorem sttl (l : List UInt8) : (ByteArray.mk l.toArray).toList = l := by simp
theorem stapp (a b : List UInt8) : (ByteArray.mk a.toArray) ++ (ByteArray.mk b.toArray) = ⟨(a ++ b).toArray⟩ := by
  apply ByteArray.ext; simp
theorem stext (l : List UInt8) (i j : Nat) : (ByteArray.mk l.toArray).extract i j = ⟨((l.take j).drop i).toArray⟩ := by
  apply ByteArray.ext; simp [List.drop_take]
theorem u8lt (b : UInt8) : b.toNat < 256 := UInt8.toNat_lt b
theorem u8eq {a b : UInt8} : ((a.toNat : Int) == (b.toNat : Int)) = decide (a = b) := by
  rw [Bool.eq_iff_iff, beq_iff_eq, decide_eq_true_iff]
  exact ⟨fun h => UInt8.toNat_inj.1 (by omega), fun h => by rw [h]⟩
/-- letters from A to Z, none twice -/
def lettersOk (l : List UInt8) : Prop := (∀ b ∈ l, 65 ≤ b.toNat ∧ b.toNat ≤ 90) ∧ l.Nodup
instance (l : List UInt8) : Decidable (lettersOk l) := by unfold lettersOk; infer_instance
def namesOk (l : List UInt8) : Prop := lettersOk l ∧ 1 ≤ l.length ∧ l.length ≤ 8
instance (l : List UInt8) : Decidable (namesOk l) := by unfold namesOk; infer_instance
structure Model where
  ks : List Kind
  nm : List UInt8
  mv : List (List Twist)
  deriving DecidableEq
abbrev tssl (l : List (List Twist)) : AV := .sl 1 (l.map tsl)
abbrev tsst (l : List (List Twist)) : AV := .tr 1 (l.map ttr)
theorem tsspure (l : List (List Twist)) : AV.pureL (l.map ttr) = true := pureL_map _ (fun t => by simp [AV.pure, tpure]) l
theorem tssfz (l : List (List Twist)) : (l.map ttr).map AV.fz = l.map tsl := by
  rw [List.map_map]; exact List.map_congr_left fun a _ => by show (ttr a).fz = tsl a; rw [AV.fz, fzL_map, tfz]
def Model.sl (m : Model) : AV := .agg [ksl m.ks, .st m.nm, tssl m.mv]
def Model.tr (m : Model) : AV := .agg [ktr m.ks, .st m.nm, tsst m.mv]
def modelOk (m : Model) : Prop := kindsOk m.ks ∧ namesOk m.nm ∧ m.nm.length = m.mv.length ∧ ∀ s ∈ m.mv, psOk m.ks s
instance (m : Model) : Decidable (modelOk m) := by unfold modelOk; infer_instance
/-! what is done with piece states, plainly -/
def solvedK (k : Kind) : Twist := ⟨runI 0 k.c.toNat, List.replicate k.c.toNat 0⟩
def solvedR (ks : List Kind) : List Twist := if kindsOk ks then ks.map solvedK else []
def compI (p q : List Int) : List Int := p.map fun x => q.getD x.toNat 0
/-- a list's places written one by one: where p says, what v says -/
def scat {α : Type} (base : List α) (p : List Int) (v : Nat → α) : Nat → List α
  | 0 => base
  | i + 1 => (scat base p v i).set (p.getD i 0).toNat (v i)
def invI (p : List Int) : List Int := scat (List.replicate p.length 0) p (fun i => (i : Int)) p.length
def compB (o : Int) (a b : Twist) (i : Nat) : Int := (a.by'.getD i 0 + b.by'.getD (a.to.getD i 0).toNat 0).tmod o
def compT (o : Int) (a b : Twist) : Twist := ⟨compI a.to b.to, (List.range a.to.length).map (compB o a b)⟩
def compS (ks : List Kind) (a b : List Twist) : List Twist := (List.range ks.length).map fun n => compT (ks.getD n default).o (a.getD n default) (b.getD n default)
def invB (o : Int) (a : Twist) (i : Nat) : Int := (o - a.by'.getD i 0).tmod o
def invT (o : Int) (a : Twist) : Twist := ⟨invI a.to, scat (List.replicate a.to.length 0) a.to (invB o a) a.to.length⟩
def invS (ks : List Kind) (a : List Twist) : List Twist := (List.range ks.length).map fun n => invT (ks.getD n default).o (a.getD n default)
def cellL (base o to by' : Int) (j : Nat) : List Int := (List.range j).map fun (i : Nat) => base + to * o + ((i : Int) + by').tmod o
def rowL (base o : Int) (t : Twist) : Nat → List Int
  | 0 => []
  | i + 1 => rowL base o t i ++ cellL base o (t.to.getD i 0) (t.by'.getD i 0) o.toNat
def permL (ks : List Kind) (s : List Twist) : Nat → List Int
  | 0 => []
  | n + 1 => permL ks s n ++ rowL (permL ks s n).length (ks.getD n default).o (s.getD n default) (ks.getD n default).c.toNat
def permOf (ks : List Kind) (s : List Twist) : List Int := permL ks s ks.length
end Go.AM
namespace Go.AM
open Go.Proofs
theorem openInt : Opens Tryd.prog 2 Int (fun n => [AV.i64 n]) intOk := opens_int Tryd.underlying2
theorem openInts : Opens Tryd.prog 58 (List Int) (fun l => [AV.sl 1 (l.map AV.i64)]) (fun l => l.length ≤ 9223372036854775807 ∧ ∀ b ∈ l, intOk b) :=
  opens_slice Tryd.underlying58 (by kernel_rfl) (by decide) AV.i64 (fun _ => rfl) openInt
theorem openKind : Opens Tryd.prog 70 Kind (fun k => [AV.i64 k.c, AV.i64 k.o]) (fun k => intOk k.c ∧ intOk k.o) :=
  Opens.map (opens_struct Tryd.underlying70 (by kernel_rfl)
    (opensFs_cons 2 1 (by rfl) (by kernel_rfl) (by rfl) (by decide) openInt
    (opensFs_cons 2 1 (by rfl) (by kernel_rfl) (by rfl) (by decide) openInt opensFs_nil)))
    (fun p => Kind.mk p.1 p.2.1) (fun _ => rfl) (fun _ h => ⟨h.1, h.2.1⟩)
theorem openKinds : Opens Tryd.prog 31 (List Kind) (fun ks => [ksl ks]) (fun ks => ks.length ≤ 9223372036854775807 ∧ ∀ k ∈ ks, intOk k.c ∧ intOk k.o) :=
  opens_slice Tryd.underlying31 (by kernel_rfl) (by decide) Kind.av (fun _ => rfl) openKind
theorem openTwist : Opens Tryd.prog 64 Twist (fun t => [AV.sl 1 (t.to.map AV.i64), AV.sl 1 (t.by'.map AV.i64)]) (fun t => t.to.length ≤ 9223372036854775807 ∧ t.by'.length ≤ 9223372036854775807 ∧ (∀ b ∈ t.to, intOk b) ∧ ∀ b ∈ t.by', intOk b) :=
  Opens.map (opens_struct Tryd.underlying64 (by kernel_rfl)
    (opensFs_cons 58 1 (by rfl) (by kernel_rfl) (by rfl) (by decide) openInts
    (opensFs_cons 58 1 (by rfl) (by kernel_rfl) (by rfl) (by decide) openInts opensFs_nil)))
    (fun p => Twist.mk p.1 p.2.1) (fun _ => rfl) (fun _ h => ⟨h.1.1, h.2.1.1, h.1.2, h.2.1.2⟩)
theorem openTwists : Opens Tryd.prog 32 (List Twist) (fun ts => [tsl ts]) (fun ts => ts.length ≤ 9223372036854775807 ∧ ∀ t ∈ ts, t.to.length ≤ 9223372036854775807 ∧ t.by'.length ≤ 9223372036854775807 ∧ (∀ b ∈ t.to, intOk b) ∧ ∀ b ∈ t.by', intOk b) :=
  opens_slice Tryd.underlying32 (by kernel_rfl) (by decide) Twist.sl (fun _ => rfl) openTwist
theorem openString : Opens Tryd.prog 9 (List UInt8) (fun l => [AV.st l]) (fun l => l.length ≤ 9223372036854775807) := opens_string Tryd.underlying9
theorem openTwistss : Opens Tryd.prog 43 (List (List Twist)) (fun l => [tssl l]) (fun l => l.length ≤ 9223372036854775807 ∧ ∀ ts ∈ l, ts.length ≤ 9223372036854775807 ∧ ∀ t ∈ ts, t.to.length ≤ 9223372036854775807 ∧ t.by'.length ≤ 9223372036854775807 ∧ (∀ b ∈ t.to, intOk b) ∧ ∀ b ∈ t.by', intOk b) :=
  opens_slice Tryd.underlying43 (by kernel_rfl) (by decide) tsl (fun _ => rfl) openTwists
theorem openPieceModel : Opens Tryd.prog 45 Model (fun m => [ksl m.ks, .st m.nm, tssl m.mv]) (fun m => m.ks.length ≤ 9223372036854775807 ∧ m.nm.length ≤ 9223372036854775807 ∧ m.mv.length ≤ 9223372036854775807 ∧ ∀ s ∈ m.mv, s.length ≤ 9223372036854775807 ∧ ∀ t ∈ s, t.to.length ≤ 9223372036854775807 ∧ t.by'.length ≤ 9223372036854775807) :=
  Opens.map (opens_struct Tryd.underlying45 (by kernel_rfl)
    (opensFs_cons 31 1 (by rfl) (by kernel_rfl) (by rfl) (by decide) openKinds
    (opensFs_cons 9 1 (by rfl) (by kernel_rfl) (by rfl) (by decide) openString
    (opensFs_cons 43 1 (by rfl) (by kernel_rfl) (by rfl) (by decide) openTwistss opensFs_nil))))
    (fun p => Model.mk p.1 p.2.1 p.2.2.1) (fun _ => rfl) (fun _ h => ⟨h.1.1, h.2.1, h.2.2.1.1, fun s hs => ⟨(h.2.2.1.2 s hs).1, fun t ht => ⟨((h.2.2.1.2 s hs).2 t ht).1, ((h.2.2.1.2 s hs).2 t ht).2.1⟩⟩⟩)
end Go.AM
set_option maxRecDepth 8000
namespace Go.AM
open Go.Proofs
def MM : FuncId → List Bool := fun f => []
/-- a size that no machine passes -/
abbrev big : Int := 1099511627776
theorem szInt64S (l : List Int) (k : Int) (hk : intOk k) (h0 : 0 ≤ k) (hl : l.length ≤ 9223372036854775807) : SpecAt Tryd.prog 47 [isl l, .i64 k] (.i64 (szR k l.length)) := by
  unfold intOk at hk
  refine spec_of_awp (M := MM) (np := 2) (fz := true) mixed Tryd.func47 rfl rfl (by decide) rfl (Nat.le_refl _) (by decide +kernel) (.inr ⟨rfl, rfl⟩) trivial ?_
  simp -dsimp -implicitDefEqProofs (disch := first | omega | (simp only [lenr]; done) | (simp only [lenr]; omega)) only [↓amPre, amAll, ↓reduceIte, reduceCtorEq, Nat.reduceEqDiff, Nat.reduceBEq, Nat.reduceAdd, Nat.reduceLeDiff, Nat.reduceSub, Nat.reduceMul, Int.reduceToNat, List.size_toArray, tyF, MM, bu0]
  refine ifP_mk ?_ ?_ <;> intro h1
  · simp -dsimp -implicitDefEqProofs (disch := first | omega | (simp only [lenr]; done) | (simp only [lenr]; omega)) only [↓amPre, amAll, ↓reduceIte, reduceCtorEq, Nat.reduceEqDiff, Nat.reduceBEq, Nat.reduceAdd, Nat.reduceLeDiff, Nat.reduceSub, Nat.reduceMul, Int.reduceToNat, List.size_toArray, tyF, MM, bu0, h1]
    simp at h1
    simp [szR, h1]
  · simp -dsimp -implicitDefEqProofs (disch := first | omega | (simp only [lenr]; done) | (simp only [lenr]; omega)) only [↓amPre, amAll, ↓reduceIte, reduceCtorEq, Nat.reduceEqDiff, Nat.reduceBEq, Nat.reduceAdd, Nat.reduceLeDiff, Nat.reduceSub, Nat.reduceMul, Int.reduceToNat, List.size_toArray, tyF, MM, bu0, h1]
    simp at h1
    simp [szR]; omega
theorem toInt64S (l : List Int) (hl : l.length ≤ 1099511627776) : SpecAt Tryd.prog 51 [isl l] (itr l) := by
  refine spec_of_awp (M := MM) (np := 1) (fz := false) mixed Tryd.func51 rfl rfl (by decide) rfl (Nat.le_refl _) (by decide +kernel) (.inl rfl) (by first | trivial | simp only [sigsOk_nil, sigsOk_some, sigsOk_none, sig_tr, sig_pt, sig_mt, sig_agg, List.map_cons, List.map_nil, sig1_tr, sig1_pt, sig1_v, and_self, true_and, List.length_map, List.length_set]) ?_
  simp -dsimp -implicitDefEqProofs (disch := first | omega | (simp only [lenr]; done) | (simp only [lenr]; omega)) only [↓amPre, amAll, ↓reduceIte, reduceCtorEq, Nat.reduceEqDiff, Nat.reduceBEq, Nat.reduceAdd, Nat.reduceLeDiff, Nat.reduceSub, Nat.reduceMul, Int.reduceToNat, List.size_toArray, tyF, MM, bu0]
  refine awp_loop (fun j st => j ≤ l.length ∧ st.fr 4 = .i64 j ∧ st.fr 0 = isl l ∧ st.fr 3 = .ref 7 [] 1 0 l.length ∧ st.mem 7 = some (itr (mixL l (List.replicate l.length 0) j))) (l.length) ?_ ?_
  · simp -dsimp -implicitDefEqProofs (disch := first | omega | (simp only [lenr]; done) | (simp only [lenr]; omega)) only [↓amPre, amAll, ↓reduceIte, reduceCtorEq, Nat.reduceEqDiff, Nat.reduceBEq, Nat.reduceAdd, Nat.reduceLeDiff, Nat.reduceSub, Nat.reduceMul, Int.reduceToNat, List.size_toArray, tyF, MM, bu0, mixL_zero]
    simp
  rintro j st _ ⟨hj, f4, f0, f3, m7⟩
  have hr : l.length = (List.replicate l.length (0:Int)).length := by simp
  have hm := mixL_len l (List.replicate l.length 0) j hr
  by_cases hlt : j < l.length
  · have hs := mixL_set l (List.replicate l.length 0) j 0 hr (by omega)
    simp -dsimp -implicitDefEqProofs (disch := first | omega | (simp only [lenr]; done) | (simp only [lenr]; omega)) only [↓amPre, amAll, ↓reduceIte, reduceCtorEq, Nat.reduceEqDiff, Nat.reduceBEq, Nat.reduceAdd, Nat.reduceLeDiff, Nat.reduceSub, Nat.reduceMul, Int.reduceToNat, List.size_toArray, tyF, MM, bu0, f4, f0, f3, m7, hm, hs]
    repeat' (first | omega | rfl | exact i64c (by omega) | exact vic (by omega) | apply And.intro)
  · have hj' : j = l.length := by omega
    subst hj'
    have := mixL_all l (List.replicate l.length 0) l.length (by omega) (by simp)
    simp -dsimp -implicitDefEqProofs (disch := first | omega | (simp only [lenr]; done) | (simp only [lenr]; omega)) only [↓amPre, amAll, ↓reduceIte, reduceCtorEq, Nat.reduceEqDiff, Nat.reduceBEq, Nat.reduceAdd, Nat.reduceLeDiff, Nat.reduceSub, Nat.reduceMul, Int.reduceToNat, List.size_toArray, tyF, MM, bu0, f4, f0, f3, m7, hm, this]
theorem eqInt64S (a b : List Int) (ha : a.length ≤ 1099511627776) : SpecAt Tryd.prog 56 [isl a, isl b] (.bl (decide (a = b))) := by
  refine spec_of_awp (M := MM) (np := 2) (fz := true) mixed Tryd.func56 rfl rfl (by decide) rfl (Nat.le_refl _) (by decide +kernel) (.inr ⟨rfl, rfl⟩) trivial ?_
  simp -dsimp -implicitDefEqProofs (disch := first | omega | (simp only [lenr]; done) | (simp only [lenr]; omega)) only [↓amPre, amAll, ↓reduceIte, reduceCtorEq, Nat.reduceEqDiff, Nat.reduceBEq, Nat.reduceAdd, Nat.reduceLeDiff, Nat.reduceSub, Nat.reduceMul, Int.reduceToNat, List.size_toArray, tyF, MM, bu0]
  refine ifP_mk ?_ ?_ <;> intro h1
  · simp -dsimp -implicitDefEqProofs (disch := first | omega | (simp only [lenr]; done) | (simp only [lenr]; omega)) only [↓amPre, amAll, ↓reduceIte, reduceCtorEq, Nat.reduceEqDiff, Nat.reduceBEq, Nat.reduceAdd, Nat.reduceLeDiff, Nat.reduceSub, Nat.reduceMul, Int.reduceToNat, List.size_toArray, tyF, MM, bu0, h1]
    have : ¬ a = b := by intro e; subst e; simp at h1
    simp [this]
  simp -dsimp -implicitDefEqProofs (disch := first | omega | (simp only [lenr]; done) | (simp only [lenr]; omega)) only [↓amPre, amAll, ↓reduceIte, reduceCtorEq, Nat.reduceEqDiff, Nat.reduceBEq, Nat.reduceAdd, Nat.reduceLeDiff, Nat.reduceSub, Nat.reduceMul, Int.reduceToNat, List.size_toArray, tyF, MM, bu0, h1]
  have hab : a.length = b.length := by simp at h1; omega
  refine awp_loop (fun k st => k ≤ a.length ∧ st.fr 5 = .i64 k ∧ st.fr 0 = isl a ∧ st.fr 1 = isl b ∧ a.take k = b.take k) (a.length) ?_ ?_
  · simp -dsimp -implicitDefEqProofs (disch := first | omega | (simp only [lenr]; done) | (simp only [lenr]; omega)) only [↓amPre, amAll, ↓reduceIte, reduceCtorEq, Nat.reduceEqDiff, Nat.reduceBEq, Nat.reduceAdd, Nat.reduceLeDiff, Nat.reduceSub, Nat.reduceMul, Int.reduceToNat, List.size_toArray, tyF, MM, bu0]
    repeat' (first | omega | rfl | exact i64c (by omega) | exact vic (by omega) | apply And.intro)
  rintro k st _ ⟨hk, f5, f0, f1, ek⟩
  by_cases hlt : k < a.length
  · simp -dsimp -implicitDefEqProofs (disch := first | omega | (simp only [lenr]; done) | (simp only [lenr]; omega)) only [↓amPre, amAll, ↓reduceIte, reduceCtorEq, Nat.reduceEqDiff, Nat.reduceBEq, Nat.reduceAdd, Nat.reduceLeDiff, Nat.reduceSub, Nat.reduceMul, Int.reduceToNat, List.size_toArray, tyF, MM, bu0, f5, f0, f1]
    refine ifP_mk ?_ ?_ <;> intro w1
    · simp -dsimp -implicitDefEqProofs (disch := first | omega | (simp only [lenr]; done) | (simp only [lenr]; omega)) only [↓amPre, amAll, ↓reduceIte, reduceCtorEq, Nat.reduceEqDiff, Nat.reduceBEq, Nat.reduceAdd, Nat.reduceLeDiff, Nat.reduceSub, Nat.reduceMul, Int.reduceToNat, List.size_toArray, tyF, MM, bu0, f5, f0, f1, w1]
      have hne : ¬ a = b := by
        intro e; subst e; simp at w1
      simp [hne]
    · simp -dsimp -implicitDefEqProofs (disch := first | omega | (simp only [lenr]; done) | (simp only [lenr]; omega)) only [↓amPre, amAll, ↓reduceIte, reduceCtorEq, Nat.reduceEqDiff, Nat.reduceBEq, Nat.reduceAdd, Nat.reduceLeDiff, Nat.reduceSub, Nat.reduceMul, Int.reduceToNat, List.size_toArray, tyF, MM, bu0, f5, f0, f1, w1]
      simp only [bne_eq_false_iff_eq] at w1
      repeat' (first | omega | rfl | exact i64c (by omega) | exact vic (by omega) | exact (take_eq_iff 0 k hlt (by omega)).2 ⟨ek, w1⟩ | apply And.intro)
  · have hke : k = a.length := by omega
    subst hke
    simp -dsimp -implicitDefEqProofs (disch := first | omega | (simp only [lenr]; done) | (simp only [lenr]; omega)) only [↓amPre, amAll, ↓reduceIte, reduceCtorEq, Nat.reduceEqDiff, Nat.reduceBEq, Nat.reduceAdd, Nat.reduceLeDiff, Nat.reduceSub, Nat.reduceMul, Int.reduceToNat, List.size_toArray, tyF, MM, bu0, f5, f0, f1]
    simp [eq_of_takes hab ek]
end Go.AM
namespace Go.AM
def St.nilAs (st : St) (d s z : Nat) : St := ((st.kill s).setMem s (.tr z [])).put (some d) (.ref s [] z 0 0)
def St.ren (st : St) (s s' : Nat) (T : AV) : St := ((st.mapF (moveF s [] s' [])).del s).setMem s' T
def St.nilC (st : St) (s j z w : Nat) (cs : List AV) : St := (st.mapF (fromF s [(0, j)])).setMem s (.pt z (.agg (cs.set j (.tr w []))))
end Go.AM
set_option maxRecDepth 8000
namespace Go.AM
open Go.Proofs
theorem szKindS (l : List Kind) (k : Int) (hk : intOk k) (h0 : 0 ≤ k) (hl : l.length ≤ 9223372036854775807) : SpecAt Tryd.prog 11 [ksl l, .i64 k] (.i64 (szR k l.length)) := by
  unfold intOk at hk
  refine spec_of_awp (M := MM) (np := 2) (fz := true) mixed Tryd.func11 rfl rfl (by decide) rfl (Nat.le_refl _) (by decide +kernel) (.inr ⟨rfl, rfl⟩) trivial ?_
  simp -dsimp -implicitDefEqProofs (disch := first | omega | (simp only [lenr]; done) | (simp only [lenr]; omega)) only [↓amPre, amAll, ↓reduceIte, reduceCtorEq, Nat.reduceEqDiff, Nat.reduceBEq, Nat.reduceAdd, Nat.reduceLeDiff, Nat.reduceSub, Nat.reduceMul, Int.reduceToNat, List.size_toArray, tyF, MM, bu0, ipure, kpure, tpure, sspure, kset, tset, ksnoc, tsnoc, Kind.av, Twist.sl, Twist.tr, Invar.av]
  refine ifP_mk ?_ ?_ <;> intro h1
  · simp -dsimp -implicitDefEqProofs (disch := first | omega | (simp only [lenr]; done) | (simp only [lenr]; omega)) only [↓amPre, amAll, ↓reduceIte, reduceCtorEq, Nat.reduceEqDiff, Nat.reduceBEq, Nat.reduceAdd, Nat.reduceLeDiff, Nat.reduceSub, Nat.reduceMul, Int.reduceToNat, List.size_toArray, tyF, MM, bu0, ipure, kpure, tpure, sspure, kset, tset, ksnoc, tsnoc, Kind.av, Twist.sl, Twist.tr, Invar.av, h1]
    simp at h1
    simp [szR, h1]
  · simp -dsimp -implicitDefEqProofs (disch := first | omega | (simp only [lenr]; done) | (simp only [lenr]; omega)) only [↓amPre, amAll, ↓reduceIte, reduceCtorEq, Nat.reduceEqDiff, Nat.reduceBEq, Nat.reduceAdd, Nat.reduceLeDiff, Nat.reduceSub, Nat.reduceMul, Int.reduceToNat, List.size_toArray, tyF, MM, bu0, ipure, kpure, tpure, sspure, kset, tset, ksnoc, tsnoc, Kind.av, Twist.sl, Twist.tr, Invar.av, h1]
    simp at h1
    simp [szR]; omega
theorem toKind (k : Kind) : SpecAt Tryd.prog 36 [k.av] k.av := by
  refine spec_of_awp (M := MM) (np := 1) (fz := true) mixed Tryd.func36 rfl rfl (by decide) rfl (Nat.le_refl _) (by decide +kernel) (.inr ⟨rfl, rfl⟩) trivial ?_
  simp -dsimp -implicitDefEqProofs (disch := first | omega | (simp only [lenr]; done) | (simp only [lenr]; omega)) only [↓amPre, amAll, ↓reduceIte, reduceCtorEq, Nat.reduceEqDiff, Nat.reduceBEq, Nat.reduceAdd, Nat.reduceLeDiff, Nat.reduceSub, Nat.reduceMul, Int.reduceToNat, List.size_toArray, tyF, MM, bu0, ipure, kpure, tpure, sspure, kset, tset, ksnoc, tsnoc, Kind.av, Twist.sl, Twist.tr, Invar.av, Kind.av]
theorem toKindS (l : List Kind) (hl : l.length ≤ 1099511627776) : SpecAt Tryd.prog 14 [ksl l] (ktr l) := by
  refine spec_of_awp (M := MM) (np := 1) (fz := false) mixed Tryd.func14 rfl rfl (by decide) rfl (Nat.le_refl _) (by decide +kernel) (.inl rfl) (by first | trivial | simp only [sigsOk_nil, sigsOk_some, sigsOk_none, sig_tr, sig_pt, sig_mt, sig_agg, List.map_cons, List.map_nil, sig1_tr, sig1_pt, sig1_v, and_self, true_and, List.length_map, List.length_set]) ?_
  simp -dsimp -implicitDefEqProofs (disch := first | omega | (simp only [lenr]; done) | (simp only [lenr]; omega)) only [↓amPre, amAll, ↓reduceIte, reduceCtorEq, Nat.reduceEqDiff, Nat.reduceBEq, Nat.reduceAdd, Nat.reduceLeDiff, Nat.reduceSub, Nat.reduceMul, Int.reduceToNat, List.size_toArray, tyF, MM, bu0, ipure, kpure, tpure, sspure, kset, tset, ksnoc, tsnoc, Kind.av, Twist.sl, Twist.tr, Invar.av]
  refine awp_loop (fun j st => j ≤ l.length ∧ st.fr 4 = .i64 j ∧ st.fr 0 = ksl l ∧ st.fr 3 = .ref 7 [] 2 0 l.length ∧ st.mem 7 = some (ktr (mixL l (List.replicate l.length ⟨0, 0⟩) j))) (l.length) ?_ ?_
  · simp -dsimp -implicitDefEqProofs (disch := first | omega | (simp only [lenr]; done) | (simp only [lenr]; omega)) only [↓amPre, amAll, ↓reduceIte, reduceCtorEq, Nat.reduceEqDiff, Nat.reduceBEq, Nat.reduceAdd, Nat.reduceLeDiff, Nat.reduceSub, Nat.reduceMul, Int.reduceToNat, List.size_toArray, tyF, MM, bu0, ipure, kpure, tpure, sspure, kset, tset, ksnoc, tsnoc, Kind.av, Twist.sl, Twist.tr, Invar.av, mixL_zero]
    simp [Kind.av]
  rintro j st _ ⟨hj, f4, f0, f3, m7⟩
  have hr : l.length = (List.replicate l.length (⟨0, 0⟩ : Kind)).length := by simp
  have hm := mixL_len l (List.replicate l.length ⟨0, 0⟩) j hr
  by_cases hlt : j < l.length
  · have hs := mixL_set l (List.replicate l.length ⟨0, 0⟩) j default hr (by omega)
    simp -dsimp -implicitDefEqProofs (disch := first | omega | (simp only [lenr]; done) | (simp only [lenr]; omega)) only [↓amPre, amAll, ↓reduceIte, reduceCtorEq, Nat.reduceEqDiff, Nat.reduceBEq, Nat.reduceAdd, Nat.reduceLeDiff, Nat.reduceSub, Nat.reduceMul, Int.reduceToNat, List.size_toArray, tyF, MM, bu0, ipure, kpure, tpure, sspure, kset, tset, ksnoc, tsnoc, Kind.av, Twist.sl, Twist.tr, Invar.av, f4, f0, f3, m7, hm]
    refine callP_of (toKind _) ?_
    simp -dsimp -implicitDefEqProofs (disch := first | omega | (simp only [lenr]; done) | (simp only [lenr]; omega)) only [↓amPre, amAll, ↓reduceIte, reduceCtorEq, Nat.reduceEqDiff, Nat.reduceBEq, Nat.reduceAdd, Nat.reduceLeDiff, Nat.reduceSub, Nat.reduceMul, Int.reduceToNat, List.size_toArray, tyF, MM, bu0, ipure, kpure, tpure, sspure, kset, tset, ksnoc, tsnoc, Kind.av, Twist.sl, Twist.tr, Invar.av, f4, f0, f3, m7, hm, hs, Kind.av, kset]
    repeat' (first | omega | rfl | exact i64c (by omega) | exact vic (by omega) | apply And.intro)
  · have hj' : j = l.length := by omega
    subst hj'
    have := mixL_all l (List.replicate l.length ⟨0, 0⟩) l.length (by omega) (by simp)
    simp -dsimp -implicitDefEqProofs (disch := first | omega | (simp only [lenr]; done) | (simp only [lenr]; omega)) only [↓amPre, amAll, ↓reduceIte, reduceCtorEq, Nat.reduceEqDiff, Nat.reduceBEq, Nat.reduceAdd, Nat.reduceLeDiff, Nat.reduceSub, Nat.reduceMul, Int.reduceToNat, List.size_toArray, tyF, MM, bu0, ipure, kpure, tpure, sspure, kset, tset, ksnoc, tsnoc, Kind.av, Twist.sl, Twist.tr, Invar.av, f4, f0, f3, m7, hm, this]
theorem eqKind (a b : Kind) : SpecAt Tryd.prog 40 [a.av, b.av] (.bl (decide (a = b))) := by
  refine spec_of_awp (M := MM) (np := 2) (fz := true) mixed Tryd.func40 rfl rfl (by decide) rfl (Nat.le_refl _) (by decide +kernel) (.inr ⟨rfl, rfl⟩) trivial ?_
  simp -dsimp -implicitDefEqProofs (disch := first | omega | (simp only [lenr]; done) | (simp only [lenr]; omega)) only [↓amPre, amAll, ↓reduceIte, reduceCtorEq, Nat.reduceEqDiff, Nat.reduceBEq, Nat.reduceAdd, Nat.reduceLeDiff, Nat.reduceSub, Nat.reduceMul, Int.reduceToNat, List.size_toArray, tyF, MM, bu0, ipure, kpure, tpure, sspure, kset, tset, ksnoc, tsnoc, Kind.av, Twist.sl, Twist.tr, Invar.av, Kind.av]
  obtain ⟨a1, a2⟩ := a
  obtain ⟨b1, b2⟩ := b
  refine ifP_mk ?_ ?_ <;> intro h1
  · simp -dsimp -implicitDefEqProofs (disch := first | omega | (simp only [lenr]; done) | (simp only [lenr]; omega)) only [↓amPre, amAll, ↓reduceIte, reduceCtorEq, Nat.reduceEqDiff, Nat.reduceBEq, Nat.reduceAdd, Nat.reduceLeDiff, Nat.reduceSub, Nat.reduceMul, Int.reduceToNat, List.size_toArray, tyF, MM, bu0, ipure, kpure, tpure, sspure, kset, tset, ksnoc, tsnoc, Kind.av, Twist.sl, Twist.tr, Invar.av, h1, Kind.av]
    simp at h1; simp [h1]
  · simp -dsimp -implicitDefEqProofs (disch := first | omega | (simp only [lenr]; done) | (simp only [lenr]; omega)) only [↓amPre, amAll, ↓reduceIte, reduceCtorEq, Nat.reduceEqDiff, Nat.reduceBEq, Nat.reduceAdd, Nat.reduceLeDiff, Nat.reduceSub, Nat.reduceMul, Int.reduceToNat, List.size_toArray, tyF, MM, bu0, ipure, kpure, tpure, sspure, kset, tset, ksnoc, tsnoc, Kind.av, Twist.sl, Twist.tr, Invar.av, h1, Kind.av]
    refine ifP_mk ?_ ?_ <;> intro h2
    · simp -dsimp -implicitDefEqProofs (disch := first | omega | (simp only [lenr]; done) | (simp only [lenr]; omega)) only [↓amPre, amAll, ↓reduceIte, reduceCtorEq, Nat.reduceEqDiff, Nat.reduceBEq, Nat.reduceAdd, Nat.reduceLeDiff, Nat.reduceSub, Nat.reduceMul, Int.reduceToNat, List.size_toArray, tyF, MM, bu0, ipure, kpure, tpure, sspure, kset, tset, ksnoc, tsnoc, Kind.av, Twist.sl, Twist.tr, Invar.av, h2, Kind.av]
      simp at h2; simp [h2]
    · simp -dsimp -implicitDefEqProofs (disch := first | omega | (simp only [lenr]; done) | (simp only [lenr]; omega)) only [↓amPre, amAll, ↓reduceIte, reduceCtorEq, Nat.reduceEqDiff, Nat.reduceBEq, Nat.reduceAdd, Nat.reduceLeDiff, Nat.reduceSub, Nat.reduceMul, Int.reduceToNat, List.size_toArray, tyF, MM, bu0, ipure, kpure, tpure, sspure, kset, tset, ksnoc, tsnoc, Kind.av, Twist.sl, Twist.tr, Invar.av, h2, Kind.av]
      simp at h1 h2; simp [h1, h2]
theorem eqKindS (a b : List Kind) (ha : a.length ≤ 1099511627776) : SpecAt Tryd.prog 17 [ksl a, ksl b] (.bl (decide (a = b))) := by
  refine spec_of_awp (M := MM) (np := 2) (fz := true) mixed Tryd.func17 rfl rfl (by decide) rfl (Nat.le_refl _) (by decide +kernel) (.inr ⟨rfl, rfl⟩) trivial ?_
  simp -dsimp -implicitDefEqProofs (disch := first | omega | (simp only [lenr]; done) | (simp only [lenr]; omega)) only [↓amPre, amAll, ↓reduceIte, reduceCtorEq, Nat.reduceEqDiff, Nat.reduceBEq, Nat.reduceAdd, Nat.reduceLeDiff, Nat.reduceSub, Nat.reduceMul, Int.reduceToNat, List.size_toArray, tyF, MM, bu0, ipure, kpure, tpure, sspure, kset, tset, ksnoc, tsnoc, Kind.av, Twist.sl, Twist.tr, Invar.av]
  refine ifP_mk ?_ ?_ <;> intro h1
  · simp -dsimp -implicitDefEqProofs (disch := first | omega | (simp only [lenr]; done) | (simp only [lenr]; omega)) only [↓amPre, amAll, ↓reduceIte, reduceCtorEq, Nat.reduceEqDiff, Nat.reduceBEq, Nat.reduceAdd, Nat.reduceLeDiff, Nat.reduceSub, Nat.reduceMul, Int.reduceToNat, List.size_toArray, tyF, MM, bu0, ipure, kpure, tpure, sspure, kset, tset, ksnoc, tsnoc, Kind.av, Twist.sl, Twist.tr, Invar.av, h1]
    have : ¬ a = b := by intro e; subst e; simp at h1
    simp [this]
  simp -dsimp -implicitDefEqProofs (disch := first | omega | (simp only [lenr]; done) | (simp only [lenr]; omega)) only [↓amPre, amAll, ↓reduceIte, reduceCtorEq, Nat.reduceEqDiff, Nat.reduceBEq, Nat.reduceAdd, Nat.reduceLeDiff, Nat.reduceSub, Nat.reduceMul, Int.reduceToNat, List.size_toArray, tyF, MM, bu0, ipure, kpure, tpure, sspure, kset, tset, ksnoc, tsnoc, Kind.av, Twist.sl, Twist.tr, Invar.av, h1]
  have hab : a.length = b.length := by simp at h1; omega
  refine awp_loop (fun k st => k ≤ a.length ∧ st.fr 5 = .i64 k ∧ st.fr 0 = ksl a ∧ st.fr 1 = ksl b ∧ a.take k = b.take k) (a.length) ?_ ?_
  · simp -dsimp -implicitDefEqProofs (disch := first | omega | (simp only [lenr]; done) | (simp only [lenr]; omega)) only [↓amPre, amAll, ↓reduceIte, reduceCtorEq, Nat.reduceEqDiff, Nat.reduceBEq, Nat.reduceAdd, Nat.reduceLeDiff, Nat.reduceSub, Nat.reduceMul, Int.reduceToNat, List.size_toArray, tyF, MM, bu0, ipure, kpure, tpure, sspure, kset, tset, ksnoc, tsnoc, Kind.av, Twist.sl, Twist.tr, Invar.av]
    repeat' (first | omega | rfl | exact i64c (by omega) | exact vic (by omega) | apply And.intro)
  rintro k st _ ⟨hk, f5, f0, f1, ek⟩
  by_cases hlt : k < a.length
  · simp -dsimp -implicitDefEqProofs (disch := first | omega | (simp only [lenr]; done) | (simp only [lenr]; omega)) only [↓amPre, amAll, ↓reduceIte, reduceCtorEq, Nat.reduceEqDiff, Nat.reduceBEq, Nat.reduceAdd, Nat.reduceLeDiff, Nat.reduceSub, Nat.reduceMul, Int.reduceToNat, List.size_toArray, tyF, MM, bu0, ipure, kpure, tpure, sspure, kset, tset, ksnoc, tsnoc, Kind.av, Twist.sl, Twist.tr, Invar.av, f5, f0, f1]
    refine callP_of (eqKind _ _) ?_
    cases w1 : decide (a.getD k default = b.getD k default) with
    | false =>
      simp -dsimp -implicitDefEqProofs (disch := first | omega | (simp only [lenr]; done) | (simp only [lenr]; omega)) only [↓amPre, amAll, ↓reduceIte, reduceCtorEq, Nat.reduceEqDiff, Nat.reduceBEq, Nat.reduceAdd, Nat.reduceLeDiff, Nat.reduceSub, Nat.reduceMul, Int.reduceToNat, List.size_toArray, tyF, MM, bu0, ipure, kpure, tpure, sspure, kset, tset, ksnoc, tsnoc, Kind.av, Twist.sl, Twist.tr, Invar.av, f5, f0, f1, w1]
      simp only [decide_eq_false_iff_not] at w1
      have hne : ¬ a = b := by
        intro e; subst e; exact w1 rfl
      simp [hne]
    | true =>
      simp -dsimp -implicitDefEqProofs (disch := first | omega | (simp only [lenr]; done) | (simp only [lenr]; omega)) only [↓amPre, amAll, ↓reduceIte, reduceCtorEq, Nat.reduceEqDiff, Nat.reduceBEq, Nat.reduceAdd, Nat.reduceLeDiff, Nat.reduceSub, Nat.reduceMul, Int.reduceToNat, List.size_toArray, tyF, MM, bu0, ipure, kpure, tpure, sspure, kset, tset, ksnoc, tsnoc, Kind.av, Twist.sl, Twist.tr, Invar.av, f5, f0, f1, w1]
      simp only [decide_eq_true_eq] at w1
      repeat' (first | omega | rfl | exact i64c (by omega) | exact vic (by omega) | exact (take_eq_iff default k hlt (by omega)).2 ⟨ek, w1⟩ | apply And.intro)
  · have hke : k = a.length := by omega
    subst hke
    simp -dsimp -implicitDefEqProofs (disch := first | omega | (simp only [lenr]; done) | (simp only [lenr]; omega)) only [↓amPre, amAll, ↓reduceIte, reduceCtorEq, Nat.reduceEqDiff, Nat.reduceBEq, Nat.reduceAdd, Nat.reduceLeDiff, Nat.reduceSub, Nat.reduceMul, Int.reduceToNat, List.size_toArray, tyF, MM, bu0, ipure, kpure, tpure, sspure, kset, tset, ksnoc, tsnoc, Kind.av, Twist.sl, Twist.tr, Invar.av, f5, f0, f1]
    simp [eq_of_takes hab ek]
end Go.AM
set_option maxRecDepth 8000
namespace Go.AM
open Go.Proofs
theorem toTwist (t : Twist) (h1 : t.to.length ≤ 1099511627776) (h2 : t.by'.length ≤ 1099511627776) : SpecAt Tryd.prog 37 [t.sl] t.tr := by
  refine spec_of_awp (M := MM) (np := 1) (fz := false) mixed Tryd.func37 rfl rfl (by decide) rfl (Nat.le_refl _) (by decide +kernel) (.inl rfl) (by first | trivial | simp only [sigsOk_nil, sigsOk_some, sigsOk_none, sig_tr, sig_pt, sig_mt, sig_agg, List.map_cons, List.map_nil, sig1_tr, sig1_pt, sig1_v, and_self, true_and, List.length_map, List.length_set]) ?_
  simp -dsimp -implicitDefEqProofs (disch := first | omega | (simp only [lenr]; done) | (simp only [lenr]; omega)) only [↓amPre, amAll, ↓reduceIte, reduceCtorEq, Nat.reduceEqDiff, Nat.reduceBEq, Nat.reduceAdd, Nat.reduceLeDiff, Nat.reduceSub, Nat.reduceMul, Int.reduceToNat, List.size_toArray, tyF, MM, bu0, ipure, kpure, tpure, sspure, kset, tset, ksnoc, tsnoc, Kind.av, Twist.sl, Twist.tr, Invar.av]
  refine callP_of (toInt64S _ h1) ?_
  simp -dsimp -implicitDefEqProofs (disch := first | omega | (simp only [lenr]; done) | (simp only [lenr]; omega)) only [↓amPre, amAll, ↓reduceIte, reduceCtorEq, Nat.reduceEqDiff, Nat.reduceBEq, Nat.reduceAdd, Nat.reduceLeDiff, Nat.reduceSub, Nat.reduceMul, Int.reduceToNat, List.size_toArray, tyF, MM, bu0, ipure, kpure, tpure, sspure, kset, tset, ksnoc, tsnoc, Kind.av, Twist.sl, Twist.tr, Invar.av]
  refine callP_of (toInt64S _ h2) ?_
  simp -dsimp -implicitDefEqProofs (disch := first | omega | (simp only [lenr]; done) | (simp only [lenr]; omega)) only [↓amPre, amAll, ↓reduceIte, reduceCtorEq, Nat.reduceEqDiff, Nat.reduceBEq, Nat.reduceAdd, Nat.reduceLeDiff, Nat.reduceSub, Nat.reduceMul, Int.reduceToNat, List.size_toArray, tyF, MM, bu0, ipure, kpure, tpure, sspure, kset, tset, ksnoc, tsnoc, Kind.av, Twist.sl, Twist.tr, Invar.av, Twist.tr]
def nilTw : AV := .agg [.nilsl, .nilsl]
theorem toTwistS (l : List Twist) (hl : l.length ≤ 1099511627776) (he : ∀ t ∈ l, t.to.length ≤ 1099511627776 ∧ t.by'.length ≤ 1099511627776) : SpecAt Tryd.prog 15 [tsl l] (ttr l) := by
  refine spec_of_awp (M := MM) (np := 1) (fz := false) mixed Tryd.func15 rfl rfl (by decide) rfl (Nat.le_refl _) (by decide +kernel) (.inl rfl) (by first | trivial | simp only [sigsOk_nil, sigsOk_some, sigsOk_none, sig_tr, sig_pt, sig_mt, sig_agg, List.map_cons, List.map_nil, sig1_tr, sig1_pt, sig1_v, and_self, true_and, List.length_map, List.length_set]) ?_
  simp -dsimp -implicitDefEqProofs (disch := first | omega | (simp only [lenr]; done) | (simp only [lenr]; omega)) only [↓amPre, amAll, ↓reduceIte, reduceCtorEq, Nat.reduceEqDiff, Nat.reduceBEq, Nat.reduceAdd, Nat.reduceLeDiff, Nat.reduceSub, Nat.reduceMul, Int.reduceToNat, List.size_toArray, tyF, MM, bu0, ipure, kpure, tpure, sspure, kset, tset, ksnoc, tsnoc, Kind.av, Twist.sl, Twist.tr, Invar.av]
  refine awp_loop (fun j st => j ≤ l.length ∧ st.fr 4 = .i64 j ∧ st.fr 0 = tsl l ∧ st.fr 3 = .ref 7 [] 2 0 l.length ∧ st.mem 7 = some (.tr 2 (mixL (l.map Twist.tr) (List.replicate l.length nilTw) j))) (l.length) ?_ ?_
  · simp -dsimp -implicitDefEqProofs (disch := first | omega | (simp only [lenr]; done) | (simp only [lenr]; omega)) only [↓amPre, amAll, ↓reduceIte, reduceCtorEq, Nat.reduceEqDiff, Nat.reduceBEq, Nat.reduceAdd, Nat.reduceLeDiff, Nat.reduceSub, Nat.reduceMul, Int.reduceToNat, List.size_toArray, tyF, MM, bu0, ipure, kpure, tpure, sspure, kset, tset, ksnoc, tsnoc, Kind.av, Twist.sl, Twist.tr, Invar.av, mixL_zero]
    simp [nilTw]
  rintro j st _ ⟨hj, f4, f0, f3, m7⟩
  have hr : (l.map Twist.tr).length = (List.replicate l.length nilTw).length := by simp
  have hm := mixL_len (l.map Twist.tr) (List.replicate l.length nilTw) j hr
  rw [List.length_replicate] at hm
  by_cases hlt : j < l.length
  · have hs := mixL_set (l.map Twist.tr) (List.replicate l.length nilTw) j .any hr (by simp; omega)
    rw [gm _ _ _ hlt, Twist.tr] at hs
    obtain ⟨e1, e2⟩ := he _ (mem_getD l j default hlt)
    simp -dsimp -implicitDefEqProofs (disch := first | omega | (simp only [lenr]; done) | (simp only [lenr]; omega)) only [↓amPre, amAll, ↓reduceIte, reduceCtorEq, Nat.reduceEqDiff, Nat.reduceBEq, Nat.reduceAdd, Nat.reduceLeDiff, Nat.reduceSub, Nat.reduceMul, Int.reduceToNat, List.size_toArray, tyF, MM, bu0, ipure, kpure, tpure, sspure, kset, tset, ksnoc, tsnoc, Kind.av, Twist.sl, Twist.tr, Invar.av, f4, f0, f3, m7, hm]
    refine callP_of (toTwist (l.getD j default) e1 e2) ?_
    simp -dsimp -implicitDefEqProofs (disch := first | omega | (simp only [lenr]; done) | (simp only [lenr]; omega)) only [↓amPre, amAll, ↓reduceIte, reduceCtorEq, Nat.reduceEqDiff, Nat.reduceBEq, Nat.reduceAdd, Nat.reduceLeDiff, Nat.reduceSub, Nat.reduceMul, Int.reduceToNat, List.size_toArray, tyF, MM, bu0, ipure, kpure, tpure, sspure, kset, tset, ksnoc, tsnoc, Kind.av, Twist.sl, Twist.tr, Invar.av, f4, f0, f3, m7, hm, hs]
    repeat' (first | omega | rfl | exact i64c (by omega) | exact vic (by omega) | apply And.intro)
  · have hj' : j = l.length := by omega
    subst hj'
    have := mixL_all (l.map Twist.tr) (List.replicate l.length nilTw) l.length (by simp) (by simp)
    simp -dsimp -implicitDefEqProofs (disch := first | omega | (simp only [lenr]; done) | (simp only [lenr]; omega)) only [↓amPre, amAll, ↓reduceIte, reduceCtorEq, Nat.reduceEqDiff, Nat.reduceBEq, Nat.reduceAdd, Nat.reduceLeDiff, Nat.reduceSub, Nat.reduceMul, Int.reduceToNat, List.size_toArray, tyF, MM, bu0, ipure, kpure, tpure, sspure, kset, tset, ksnoc, tsnoc, Kind.av, Twist.sl, Twist.tr, Invar.av, f4, f0, f3, m7, hm, this]
theorem szTwist (t : Twist) (k : Int) (h0 : 0 ≤ k) (h1 : k ≤ 1048576) (h2 : t.to.length ≤ 9223372036854775807) (h3 : t.by'.length ≤ 9223372036854775807) : SpecAt Tryd.prog 33 [t.sl, .i64 k] (.i64 (szR k (Mk.cnt t))) := by
  have ec : Mk.cnt t = t.to.length + t.by'.length := rfl
  refine spec_of_awp (M := MM) (np := 2) (fz := true) mixed Tryd.func33 rfl rfl (by decide) rfl (Nat.le_refl _) (by decide +kernel) (.inr ⟨rfl, rfl⟩) trivial ?_
  simp -dsimp -implicitDefEqProofs (disch := first | omega | (simp only [lenr]; done) | (simp only [lenr]; omega)) only [↓amPre, amAll, ↓reduceIte, reduceCtorEq, Nat.reduceEqDiff, Nat.reduceBEq, Nat.reduceAdd, Nat.reduceLeDiff, Nat.reduceSub, Nat.reduceMul, Int.reduceToNat, List.size_toArray, tyF, MM, bu0, ipure, kpure, tpure, sspure, kset, tset, ksnoc, tsnoc, Kind.av, Twist.sl, Twist.tr, Invar.av]
  refine callP_of (szInt64S _ _ (by unfold intOk; omega) h0 h2) ?_
  by_cases c1 : k - t.to.length < 0
  · simp -dsimp -implicitDefEqProofs (disch := first | omega | (simp only [lenr]; done) | (simp only [lenr]; omega)) only [↓amPre, amAll, ↓reduceIte, reduceCtorEq, Nat.reduceEqDiff, Nat.reduceBEq, Nat.reduceAdd, Nat.reduceLeDiff, Nat.reduceSub, Nat.reduceMul, Int.reduceToNat, List.size_toArray, tyF, MM, bu0, ipure, kpure, tpure, sspure, kset, tset, ksnoc, tsnoc, Kind.av, Twist.sl, Twist.tr, Invar.av, szR_neg c1]
    rw [szR_neg (by omega)]
  · simp -dsimp -implicitDefEqProofs (disch := first | omega | (simp only [lenr]; done) | (simp only [lenr]; omega)) only [↓amPre, amAll, ↓reduceIte, reduceCtorEq, Nat.reduceEqDiff, Nat.reduceBEq, Nat.reduceAdd, Nat.reduceLeDiff, Nat.reduceSub, Nat.reduceMul, Int.reduceToNat, List.size_toArray, tyF, MM, bu0, ipure, kpure, tpure, sspure, kset, tset, ksnoc, tsnoc, Kind.av, Twist.sl, Twist.tr, Invar.av, szR_pos (Int.not_lt.1 c1)]
    refine callP_of (szInt64S _ _ (by unfold intOk; omega) (by omega) h3) ?_
    by_cases c2 : k - t.to.length - t.by'.length < 0
    · simp -dsimp -implicitDefEqProofs (disch := first | omega | (simp only [lenr]; done) | (simp only [lenr]; omega)) only [↓amPre, amAll, ↓reduceIte, reduceCtorEq, Nat.reduceEqDiff, Nat.reduceBEq, Nat.reduceAdd, Nat.reduceLeDiff, Nat.reduceSub, Nat.reduceMul, Int.reduceToNat, List.size_toArray, tyF, MM, bu0, ipure, kpure, tpure, sspure, kset, tset, ksnoc, tsnoc, Kind.av, Twist.sl, Twist.tr, Invar.av, szR_neg c2]
      rw [szR_neg (by omega)]
    · simp -dsimp -implicitDefEqProofs (disch := first | omega | (simp only [lenr]; done) | (simp only [lenr]; omega)) only [↓amPre, amAll, ↓reduceIte, reduceCtorEq, Nat.reduceEqDiff, Nat.reduceBEq, Nat.reduceAdd, Nat.reduceLeDiff, Nat.reduceSub, Nat.reduceMul, Int.reduceToNat, List.size_toArray, tyF, MM, bu0, ipure, kpure, tpure, sspure, kset, tset, ksnoc, tsnoc, Kind.av, Twist.sl, Twist.tr, Invar.av, szR_pos (Int.not_lt.1 c2)]
      rw [szR_pos (by omega)]
      exact vic (by omega)
theorem szTwistS (l : List Twist) (k : Int) (h0 : 0 ≤ k) (h1 : k ≤ 1048576) (hl : l.length ≤ 9223372036854775807) (he : ∀ t ∈ l, t.to.length ≤ 9223372036854775807 ∧ t.by'.length ≤ 9223372036854775807) : SpecAt Tryd.prog 12 [tsl l, .i64 k] (.i64 (szR k (sizeL l))) := by
  refine spec_of_awp (M := MM) (np := 2) (fz := true) mixed Tryd.func12 rfl rfl (by decide) rfl (Nat.le_refl _) (by decide +kernel) (.inr ⟨rfl, rfl⟩) trivial ?_
  simp -dsimp -implicitDefEqProofs (disch := first | omega | (simp only [lenr]; done) | (simp only [lenr]; omega)) only [↓amPre, amAll, ↓reduceIte, reduceCtorEq, Nat.reduceEqDiff, Nat.reduceBEq, Nat.reduceAdd, Nat.reduceLeDiff, Nat.reduceSub, Nat.reduceMul, Int.reduceToNat, List.size_toArray, tyF, MM, bu0, ipure, kpure, tpure, sspure, kset, tset, ksnoc, tsnoc, Kind.av, Twist.sl, Twist.tr, Invar.av]
  refine ifP_mk ?_ ?_ <;> intro c1
  · simp -dsimp -implicitDefEqProofs (disch := first | omega | (simp only [lenr]; done) | (simp only [lenr]; omega)) only [↓amPre, amAll, ↓reduceIte, reduceCtorEq, Nat.reduceEqDiff, Nat.reduceBEq, Nat.reduceAdd, Nat.reduceLeDiff, Nat.reduceSub, Nat.reduceMul, Int.reduceToNat, List.size_toArray, tyF, MM, bu0, ipure, kpure, tpure, sspure, kset, tset, ksnoc, tsnoc, Kind.av, Twist.sl, Twist.tr, Invar.av, c1]
    simp at c1
    rw [szR_neg (by unfold sizeL; omega)]
  simp at c1
  simp -dsimp -implicitDefEqProofs (disch := first | omega | (simp only [lenr]; done) | (simp only [lenr]; omega)) only [↓amPre, amAll, ↓reduceIte, reduceCtorEq, Nat.reduceEqDiff, Nat.reduceBEq, Nat.reduceAdd, Nat.reduceLeDiff, Nat.reduceSub, Nat.reduceMul, Int.reduceToNat, List.size_toArray, tyF, MM, bu0, ipure, kpure, tpure, sspure, kset, tset, ksnoc, tsnoc, Kind.av, Twist.sl, Twist.tr, Invar.av, lt_false c1]
  refine awp_loop (fun j st => j ≤ l.length ∧ st.fr 5 = .i64 j ∧ st.fr 1 = .i64 (k - l.length - cnts (l.take j)) ∧ st.fr 0 = tsl l ∧ 0 ≤ k - l.length - cnts (l.take j)) (l.length) ?_ ?_
  · simp -dsimp -implicitDefEqProofs (disch := first | omega | (simp only [lenr]; done) | (simp only [lenr]; omega)) only [↓amPre, amAll, ↓reduceIte, reduceCtorEq, Nat.reduceEqDiff, Nat.reduceBEq, Nat.reduceAdd, Nat.reduceLeDiff, Nat.reduceSub, Nat.reduceMul, Int.reduceToNat, List.size_toArray, tyF, MM, bu0, ipure, kpure, tpure, sspure, kset, tset, ksnoc, tsnoc, Kind.av, Twist.sl, Twist.tr, Invar.av]
    simp [cnts]; omega
  rintro j st _ ⟨hj, f5, f1, f0, ej⟩
  by_cases hlt : j < l.length
  · have ct := cnts_take l j hlt
    obtain ⟨e1, e2⟩ := he _ (mem_getD l j default hlt)
    simp -dsimp -implicitDefEqProofs (disch := first | omega | (simp only [lenr]; done) | (simp only [lenr]; omega)) only [↓amPre, amAll, ↓reduceIte, reduceCtorEq, Nat.reduceEqDiff, Nat.reduceBEq, Nat.reduceAdd, Nat.reduceLeDiff, Nat.reduceSub, Nat.reduceMul, Int.reduceToNat, List.size_toArray, tyF, MM, bu0, ipure, kpure, tpure, sspure, kset, tset, ksnoc, tsnoc, Kind.av, Twist.sl, Twist.tr, Invar.av, f5, f1, f0]
    refine callP_of (szTwist (l.getD j default) _ ej (by omega) e1 e2) ?_
    by_cases c2 : k - l.length - cnts (l.take j) - (Mk.cnt (l.getD j default) : Nat) < 0
    · simp -dsimp -implicitDefEqProofs (disch := first | omega | (simp only [lenr]; done) | (simp only [lenr]; omega)) only [↓amPre, amAll, ↓reduceIte, reduceCtorEq, Nat.reduceEqDiff, Nat.reduceBEq, Nat.reduceAdd, Nat.reduceLeDiff, Nat.reduceSub, Nat.reduceMul, Int.reduceToNat, List.size_toArray, tyF, MM, bu0, ipure, kpure, tpure, sspure, kset, tset, ksnoc, tsnoc, Kind.av, Twist.sl, Twist.tr, Invar.av, f5, f1, f0, szR_neg c2]
      rw [szR_neg]
      have := cnts_le1 l j hlt
      unfold sizeL; omega
    · simp -dsimp -implicitDefEqProofs (disch := first | omega | (simp only [lenr]; done) | (simp only [lenr]; omega)) only [↓amPre, amAll, ↓reduceIte, reduceCtorEq, Nat.reduceEqDiff, Nat.reduceBEq, Nat.reduceAdd, Nat.reduceLeDiff, Nat.reduceSub, Nat.reduceMul, Int.reduceToNat, List.size_toArray, tyF, MM, bu0, ipure, kpure, tpure, sspure, kset, tset, ksnoc, tsnoc, Kind.av, Twist.sl, Twist.tr, Invar.av, f5, f1, f0, szR_pos (Int.not_lt.1 c2)]
      repeat' (first | omega | rfl | exact i64c (by omega) | exact vic (by omega) | apply And.intro)
  · have hj' : j = l.length := by omega
    subst hj'
    rw [List.take_length] at *
    simp -dsimp -implicitDefEqProofs (disch := first | omega | (simp only [lenr]; done) | (simp only [lenr]; omega)) only [↓amPre, amAll, ↓reduceIte, reduceCtorEq, Nat.reduceEqDiff, Nat.reduceBEq, Nat.reduceAdd, Nat.reduceLeDiff, Nat.reduceSub, Nat.reduceMul, Int.reduceToNat, List.size_toArray, tyF, MM, bu0, ipure, kpure, tpure, sspure, kset, tset, ksnoc, tsnoc, Kind.av, Twist.sl, Twist.tr, Invar.av, f5, f1, f0]
    rw [szR_pos (by unfold sizeL; omega)]
    exact vic (by unfold sizeL; omega)
theorem eqTwist (a b : Twist) (h1 : a.to.length ≤ 1099511627776) (h2 : a.by'.length ≤ 1099511627776) : SpecAt Tryd.prog 41 [a.sl, b.sl] (.bl (decide (a = b))) := by
  refine spec_of_awp (M := MM) (np := 2) (fz := true) mixed Tryd.func41 rfl rfl (by decide) rfl (Nat.le_refl _) (by decide +kernel) (.inr ⟨rfl, rfl⟩) trivial ?_
  simp -dsimp -implicitDefEqProofs (disch := first | omega | (simp only [lenr]; done) | (simp only [lenr]; omega)) only [↓amPre, amAll, ↓reduceIte, reduceCtorEq, Nat.reduceEqDiff, Nat.reduceBEq, Nat.reduceAdd, Nat.reduceLeDiff, Nat.reduceSub, Nat.reduceMul, Int.reduceToNat, List.size_toArray, tyF, MM, bu0, ipure, kpure, tpure, sspure, kset, tset, ksnoc, tsnoc, Kind.av, Twist.sl, Twist.tr, Invar.av]
  refine callP_of (eqInt64S _ _ h1) ?_
  obtain ⟨a1, a2⟩ := a
  obtain ⟨b1, b2⟩ := b
  cases c1 : decide (a1 = b1) with
  | false =>
    simp -dsimp -implicitDefEqProofs (disch := first | omega | (simp only [lenr]; done) | (simp only [lenr]; omega)) only [↓amPre, amAll, ↓reduceIte, reduceCtorEq, Nat.reduceEqDiff, Nat.reduceBEq, Nat.reduceAdd, Nat.reduceLeDiff, Nat.reduceSub, Nat.reduceMul, Int.reduceToNat, List.size_toArray, tyF, MM, bu0, ipure, kpure, tpure, sspure, kset, tset, ksnoc, tsnoc, Kind.av, Twist.sl, Twist.tr, Invar.av, c1]
    simp at c1; simp [c1]
  | true =>
    simp -dsimp -implicitDefEqProofs (disch := first | omega | (simp only [lenr]; done) | (simp only [lenr]; omega)) only [↓amPre, amAll, ↓reduceIte, reduceCtorEq, Nat.reduceEqDiff, Nat.reduceBEq, Nat.reduceAdd, Nat.reduceLeDiff, Nat.reduceSub, Nat.reduceMul, Int.reduceToNat, List.size_toArray, tyF, MM, bu0, ipure, kpure, tpure, sspure, kset, tset, ksnoc, tsnoc, Kind.av, Twist.sl, Twist.tr, Invar.av, c1]
    refine callP_of (eqInt64S _ _ h2) ?_
    cases c2 : decide (a2 = b2) with
    | false =>
      simp -dsimp -implicitDefEqProofs (disch := first | omega | (simp only [lenr]; done) | (simp only [lenr]; omega)) only [↓amPre, amAll, ↓reduceIte, reduceCtorEq, Nat.reduceEqDiff, Nat.reduceBEq, Nat.reduceAdd, Nat.reduceLeDiff, Nat.reduceSub, Nat.reduceMul, Int.reduceToNat, List.size_toArray, tyF, MM, bu0, ipure, kpure, tpure, sspure, kset, tset, ksnoc, tsnoc, Kind.av, Twist.sl, Twist.tr, Invar.av, c2]
      simp at c2; simp [c2]
    | true =>
      simp -dsimp -implicitDefEqProofs (disch := first | omega | (simp only [lenr]; done) | (simp only [lenr]; omega)) only [↓amPre, amAll, ↓reduceIte, reduceCtorEq, Nat.reduceEqDiff, Nat.reduceBEq, Nat.reduceAdd, Nat.reduceLeDiff, Nat.reduceSub, Nat.reduceMul, Int.reduceToNat, List.size_toArray, tyF, MM, bu0, ipure, kpure, tpure, sspure, kset, tset, ksnoc, tsnoc, Kind.av, Twist.sl, Twist.tr, Invar.av, c2]
      simp at c1 c2; simp [c1, c2]
theorem eqTwistS (a b : List Twist) (ha : a.length ≤ 1099511627776) (he : ∀ t ∈ a, t.to.length ≤ 1099511627776 ∧ t.by'.length ≤ 1099511627776) : SpecAt Tryd.prog 18 [tsl a, tsl b] (.bl (decide (a = b))) := by
  refine spec_of_awp (M := MM) (np := 2) (fz := true) mixed Tryd.func18 rfl rfl (by decide) rfl (Nat.le_refl _) (by decide +kernel) (.inr ⟨rfl, rfl⟩) trivial ?_
  simp -dsimp -implicitDefEqProofs (disch := first | omega | (simp only [lenr]; done) | (simp only [lenr]; omega)) only [↓amPre, amAll, ↓reduceIte, reduceCtorEq, Nat.reduceEqDiff, Nat.reduceBEq, Nat.reduceAdd, Nat.reduceLeDiff, Nat.reduceSub, Nat.reduceMul, Int.reduceToNat, List.size_toArray, tyF, MM, bu0, ipure, kpure, tpure, sspure, kset, tset, ksnoc, tsnoc, Kind.av, Twist.sl, Twist.tr, Invar.av]
  refine ifP_mk ?_ ?_ <;> intro h1
  · simp -dsimp -implicitDefEqProofs (disch := first | omega | (simp only [lenr]; done) | (simp only [lenr]; omega)) only [↓amPre, amAll, ↓reduceIte, reduceCtorEq, Nat.reduceEqDiff, Nat.reduceBEq, Nat.reduceAdd, Nat.reduceLeDiff, Nat.reduceSub, Nat.reduceMul, Int.reduceToNat, List.size_toArray, tyF, MM, bu0, ipure, kpure, tpure, sspure, kset, tset, ksnoc, tsnoc, Kind.av, Twist.sl, Twist.tr, Invar.av, h1]
    have : ¬ a = b := by intro e; subst e; simp at h1
    simp [this]
  simp -dsimp -implicitDefEqProofs (disch := first | omega | (simp only [lenr]; done) | (simp only [lenr]; omega)) only [↓amPre, amAll, ↓reduceIte, reduceCtorEq, Nat.reduceEqDiff, Nat.reduceBEq, Nat.reduceAdd, Nat.reduceLeDiff, Nat.reduceSub, Nat.reduceMul, Int.reduceToNat, List.size_toArray, tyF, MM, bu0, ipure, kpure, tpure, sspure, kset, tset, ksnoc, tsnoc, Kind.av, Twist.sl, Twist.tr, Invar.av, h1]
  have hab : a.length = b.length := by simp at h1; omega
  refine awp_loop (fun k st => k ≤ a.length ∧ st.fr 5 = .i64 k ∧ st.fr 0 = tsl a ∧ st.fr 1 = tsl b ∧ a.take k = b.take k) (a.length) ?_ ?_
  · simp -dsimp -implicitDefEqProofs (disch := first | omega | (simp only [lenr]; done) | (simp only [lenr]; omega)) only [↓amPre, amAll, ↓reduceIte, reduceCtorEq, Nat.reduceEqDiff, Nat.reduceBEq, Nat.reduceAdd, Nat.reduceLeDiff, Nat.reduceSub, Nat.reduceMul, Int.reduceToNat, List.size_toArray, tyF, MM, bu0, ipure, kpure, tpure, sspure, kset, tset, ksnoc, tsnoc, Kind.av, Twist.sl, Twist.tr, Invar.av]
    repeat' (first | omega | rfl | exact i64c (by omega) | exact vic (by omega) | apply And.intro)
  rintro k st _ ⟨hk, f5, f0, f1, ek⟩
  by_cases hlt : k < a.length
  · obtain ⟨e1, e2⟩ := he _ (mem_getD a k default hlt)
    simp -dsimp -implicitDefEqProofs (disch := first | omega | (simp only [lenr]; done) | (simp only [lenr]; omega)) only [↓amPre, amAll, ↓reduceIte, reduceCtorEq, Nat.reduceEqDiff, Nat.reduceBEq, Nat.reduceAdd, Nat.reduceLeDiff, Nat.reduceSub, Nat.reduceMul, Int.reduceToNat, List.size_toArray, tyF, MM, bu0, ipure, kpure, tpure, sspure, kset, tset, ksnoc, tsnoc, Kind.av, Twist.sl, Twist.tr, Invar.av, f5, f0, f1]
    refine callP_of (eqTwist (a.getD k default) (b.getD k default) e1 e2) ?_
    cases w1 : decide (a.getD k default = b.getD k default) with
    | false =>
      simp -dsimp -implicitDefEqProofs (disch := first | omega | (simp only [lenr]; done) | (simp only [lenr]; omega)) only [↓amPre, amAll, ↓reduceIte, reduceCtorEq, Nat.reduceEqDiff, Nat.reduceBEq, Nat.reduceAdd, Nat.reduceLeDiff, Nat.reduceSub, Nat.reduceMul, Int.reduceToNat, List.size_toArray, tyF, MM, bu0, ipure, kpure, tpure, sspure, kset, tset, ksnoc, tsnoc, Kind.av, Twist.sl, Twist.tr, Invar.av, f5, f0, f1, w1]
      simp only [decide_eq_false_iff_not] at w1
      have hne : ¬ a = b := by
        intro e; subst e; exact w1 rfl
      simp [hne]
    | true =>
      simp -dsimp -implicitDefEqProofs (disch := first | omega | (simp only [lenr]; done) | (simp only [lenr]; omega)) only [↓amPre, amAll, ↓reduceIte, reduceCtorEq, Nat.reduceEqDiff, Nat.reduceBEq, Nat.reduceAdd, Nat.reduceLeDiff, Nat.reduceSub, Nat.reduceMul, Int.reduceToNat, List.size_toArray, tyF, MM, bu0, ipure, kpure, tpure, sspure, kset, tset, ksnoc, tsnoc, Kind.av, Twist.sl, Twist.tr, Invar.av, f5, f0, f1, w1]
      simp only [decide_eq_true_eq] at w1
      repeat' (first | omega | rfl | exact i64c (by omega) | exact vic (by omega) | exact (take_eq_iff default k hlt (by omega)).2 ⟨ek, w1⟩ | apply And.intro)
  · have hke : k = a.length := by omega
    subst hke
    simp -dsimp -implicitDefEqProofs (disch := first | omega | (simp only [lenr]; done) | (simp only [lenr]; omega)) only [↓amPre, amAll, ↓reduceIte, reduceCtorEq, Nat.reduceEqDiff, Nat.reduceBEq, Nat.reduceAdd, Nat.reduceLeDiff, Nat.reduceSub, Nat.reduceMul, Int.reduceToNat, List.size_toArray, tyF, MM, bu0, ipure, kpure, tpure, sspure, kset, tset, ksnoc, tsnoc, Kind.av, Twist.sl, Twist.tr, Invar.av, f5, f0, f1]
    simp [eq_of_takes hab ek]
end Go.AM
set_option maxRecDepth 8000
namespace Go.AM
open Go.Proofs
theorem inRange (x lo hi : Int) : SpecAt Tryd.prog 61 [.i64 x, .i64 lo, .i64 hi] (.bl (within x lo hi)) := by
  refine spec_of_awp (M := MM) (np := 3) (fz := true) mixed Tryd.func61 rfl rfl (by decide) rfl (Nat.le_refl _) (by decide +kernel) (.inr ⟨rfl, rfl⟩) trivial ?_
  simp -dsimp -implicitDefEqProofs (disch := first | omega | (simp only [lenr]; done) | (simp only [lenr]; omega)) only [↓amPre, amAll, ↓reduceIte, reduceCtorEq, Nat.reduceEqDiff, Nat.reduceBEq, Nat.reduceAdd, Nat.reduceLeDiff, Nat.reduceSub, Nat.reduceMul, Int.reduceToNat, List.size_toArray, tyF, MM, bu0, ipure, kpure, tpure, sspure, kset, tset, ksnoc, tsnoc, Kind.av, Twist.sl, Twist.tr, Invar.av]
  refine ifP_mk ?_ ?_ <;> intro h1
  · simp -dsimp -implicitDefEqProofs (disch := first | omega | (simp only [lenr]; done) | (simp only [lenr]; omega)) only [↓amPre, amAll, ↓reduceIte, reduceCtorEq, Nat.reduceEqDiff, Nat.reduceBEq, Nat.reduceAdd, Nat.reduceLeDiff, Nat.reduceSub, Nat.reduceMul, Int.reduceToNat, List.size_toArray, tyF, MM, bu0, ipure, kpure, tpure, sspure, kset, tset, ksnoc, tsnoc, Kind.av, Twist.sl, Twist.tr, Invar.av, h1]
    simp [within, h1]
  · simp -dsimp -implicitDefEqProofs (disch := first | omega | (simp only [lenr]; done) | (simp only [lenr]; omega)) only [↓amPre, amAll, ↓reduceIte, reduceCtorEq, Nat.reduceEqDiff, Nat.reduceBEq, Nat.reduceAdd, Nat.reduceLeDiff, Nat.reduceSub, Nat.reduceMul, Int.reduceToNat, List.size_toArray, tyF, MM, bu0, ipure, kpure, tpure, sspure, kset, tset, ksnoc, tsnoc, Kind.av, Twist.sl, Twist.tr, Invar.av, h1]
    simp [within, h1]
theorem iwithin (x lo hi : Int) : SpecAt Tryd.prog 66 [.i64 x, .i64 lo, .i64 hi] (.bl (within x lo hi)) := by
  refine spec_of_awp (M := MM) (np := 3) (fz := true) mixed Tryd.func66 rfl rfl (by decide) rfl (Nat.le_refl _) (by decide +kernel) (.inr ⟨rfl, rfl⟩) trivial ?_
  simp -dsimp -implicitDefEqProofs (disch := first | omega | (simp only [lenr]; done) | (simp only [lenr]; omega)) only [↓amPre, amAll, ↓reduceIte, reduceCtorEq, Nat.reduceEqDiff, Nat.reduceBEq, Nat.reduceAdd, Nat.reduceLeDiff, Nat.reduceSub, Nat.reduceMul, Int.reduceToNat, List.size_toArray, tyF, MM, bu0, ipure, kpure, tpure, sspure, kset, tset, ksnoc, tsnoc, Kind.av, Twist.sl, Twist.tr, Invar.av]
  refine ifP_mk ?_ ?_ <;> intro h1
  · simp -dsimp -implicitDefEqProofs (disch := first | omega | (simp only [lenr]; done) | (simp only [lenr]; omega)) only [↓amPre, amAll, ↓reduceIte, reduceCtorEq, Nat.reduceEqDiff, Nat.reduceBEq, Nat.reduceAdd, Nat.reduceLeDiff, Nat.reduceSub, Nat.reduceMul, Int.reduceToNat, List.size_toArray, tyF, MM, bu0, ipure, kpure, tpure, sspure, kset, tset, ksnoc, tsnoc, Kind.av, Twist.sl, Twist.tr, Invar.av, h1]
    simp [within, h1]
  · simp -dsimp -implicitDefEqProofs (disch := first | omega | (simp only [lenr]; done) | (simp only [lenr]; omega)) only [↓amPre, amAll, ↓reduceIte, reduceCtorEq, Nat.reduceEqDiff, Nat.reduceBEq, Nat.reduceAdd, Nat.reduceLeDiff, Nat.reduceSub, Nat.reduceMul, Int.reduceToNat, List.size_toArray, tyF, MM, bu0, ipure, kpure, tpure, sspure, kset, tset, ksnoc, tsnoc, Kind.av, Twist.sl, Twist.tr, Invar.av, h1]
    simp [within, h1]
theorem lenI (l : List Int) : SpecAt Tryd.prog 69 [isl l] (.i64 l.length) := by
  refine spec_of_awp (M := MM) (np := 1) (fz := true) mixed Tryd.func69 rfl rfl (by decide) rfl (Nat.le_refl _) (by decide +kernel) (.inr ⟨rfl, rfl⟩) trivial ?_
  simp -dsimp -implicitDefEqProofs (disch := first | omega | (simp only [lenr]; done) | (simp only [lenr]; omega)) only [↓amPre, amAll, ↓reduceIte, reduceCtorEq, Nat.reduceEqDiff, Nat.reduceBEq, Nat.reduceAdd, Nat.reduceLeDiff, Nat.reduceSub, Nat.reduceMul, Int.reduceToNat, List.size_toArray, tyF, MM, bu0, ipure, kpure, tpure, sspure, kset, tset, ksnoc, tsnoc, Kind.av, Twist.sl, Twist.tr, Invar.av]
theorem lenK (l : List Kind) : SpecAt Tryd.prog 75 [ksl l] (.i64 l.length) := by
  refine spec_of_awp (M := MM) (np := 1) (fz := true) mixed Tryd.func75 rfl rfl (by decide) rfl (Nat.le_refl _) (by decide +kernel) (.inr ⟨rfl, rfl⟩) trivial ?_
  simp -dsimp -implicitDefEqProofs (disch := first | omega | (simp only [lenr]; done) | (simp only [lenr]; omega)) only [↓amPre, amAll, ↓reduceIte, reduceCtorEq, Nat.reduceEqDiff, Nat.reduceBEq, Nat.reduceAdd, Nat.reduceLeDiff, Nat.reduceSub, Nat.reduceMul, Int.reduceToNat, List.size_toArray, tyF, MM, bu0, ipure, kpure, tpure, sspure, kset, tset, ksnoc, tsnoc, Kind.av, Twist.sl, Twist.tr, Invar.av]
theorem containsInt (l : List Int) (x : Int) (hl : l.length ≤ 1099511627776) : SpecAt Tryd.prog 80 [isl l, .i64 x] (.bl (decide (x ∈ l))) := by
  refine spec_of_awp (M := MM) (np := 2) (fz := true) mixed Tryd.func80 rfl rfl (by decide) rfl (Nat.le_refl _) (by decide +kernel) (.inr ⟨rfl, rfl⟩) trivial ?_
  simp -dsimp -implicitDefEqProofs (disch := first | omega | (simp only [lenr]; done) | (simp only [lenr]; omega)) only [↓amPre, amAll, ↓reduceIte, reduceCtorEq, Nat.reduceEqDiff, Nat.reduceBEq, Nat.reduceAdd, Nat.reduceLeDiff, Nat.reduceSub, Nat.reduceMul, Int.reduceToNat, List.size_toArray, tyF, MM, bu0, ipure, kpure, tpure, sspure, kset, tset, ksnoc, tsnoc, Kind.av, Twist.sl, Twist.tr, Invar.av]
  refine awp_loop (fun k st => k ≤ l.length ∧ st.fr 5 = .i64 k ∧ st.fr 0 = isl l ∧ st.fr 1 = .i64 x ∧ ∀ y ∈ l.take k, y ≠ x) (l.length) ?_ ?_
  · simp -dsimp -implicitDefEqProofs (disch := first | omega | (simp only [lenr]; done) | (simp only [lenr]; omega)) only [↓amPre, amAll, ↓reduceIte, reduceCtorEq, Nat.reduceEqDiff, Nat.reduceBEq, Nat.reduceAdd, Nat.reduceLeDiff, Nat.reduceSub, Nat.reduceMul, Int.reduceToNat, List.size_toArray, tyF, MM, bu0, ipure, kpure, tpure, sspure, kset, tset, ksnoc, tsnoc, Kind.av, Twist.sl, Twist.tr, Invar.av]
    simp
  rintro k st _ ⟨hk, f5, f0, f1, ek⟩
  by_cases hlt : k < l.length
  · simp -dsimp -implicitDefEqProofs (disch := first | omega | (simp only [lenr]; done) | (simp only [lenr]; omega)) only [↓amPre, amAll, ↓reduceIte, reduceCtorEq, Nat.reduceEqDiff, Nat.reduceBEq, Nat.reduceAdd, Nat.reduceLeDiff, Nat.reduceSub, Nat.reduceMul, Int.reduceToNat, List.size_toArray, tyF, MM, bu0, ipure, kpure, tpure, sspure, kset, tset, ksnoc, tsnoc, Kind.av, Twist.sl, Twist.tr, Invar.av, f5, f0, f1]
    refine ifP_mk ?_ ?_ <;> intro w
    · simp -dsimp -implicitDefEqProofs (disch := first | omega | (simp only [lenr]; done) | (simp only [lenr]; omega)) only [↓amPre, amAll, ↓reduceIte, reduceCtorEq, Nat.reduceEqDiff, Nat.reduceBEq, Nat.reduceAdd, Nat.reduceLeDiff, Nat.reduceSub, Nat.reduceMul, Int.reduceToNat, List.size_toArray, tyF, MM, bu0, ipure, kpure, tpure, sspure, kset, tset, ksnoc, tsnoc, Kind.av, Twist.sl, Twist.tr, Invar.av, w]
      simp only [beq_iff_eq, bne_iff_ne, ne_eq, beq_eq_false_iff_ne, bne_eq_false_iff_eq, decide_eq_true_eq, decide_eq_false_iff_not, Bool.not_eq_true', Bool.not_eq_false', Int.not_lt, Int.not_le, Bool.and_eq_true, Bool.or_eq_true, Bool.and_eq_false_iff, Bool.or_eq_false_iff, Decidable.not_not] at w
      have := mem_getD l k 0 hlt
      rw [w] at this
      simp [this]
    · simp -dsimp -implicitDefEqProofs (disch := first | omega | (simp only [lenr]; done) | (simp only [lenr]; omega)) only [↓amPre, amAll, ↓reduceIte, reduceCtorEq, Nat.reduceEqDiff, Nat.reduceBEq, Nat.reduceAdd, Nat.reduceLeDiff, Nat.reduceSub, Nat.reduceMul, Int.reduceToNat, List.size_toArray, tyF, MM, bu0, ipure, kpure, tpure, sspure, kset, tset, ksnoc, tsnoc, Kind.av, Twist.sl, Twist.tr, Invar.av, w, f5, f0, f1]
      simp only [beq_iff_eq, bne_iff_ne, ne_eq, beq_eq_false_iff_ne, bne_eq_false_iff_eq, decide_eq_true_eq, decide_eq_false_iff_not, Bool.not_eq_true', Bool.not_eq_false', Int.not_lt, Int.not_le, Bool.and_eq_true, Bool.or_eq_true, Bool.and_eq_false_iff, Bool.or_eq_false_iff, Decidable.not_not] at w
      repeat' (first | omega | rfl | exact i64c (by omega) | exact vic (by omega) | exact (mem_take_succ (d := 0) hlt).2 ⟨ek, w⟩ | apply And.intro)
  · have hke : k = l.length := by omega
    subst hke
    simp -dsimp -implicitDefEqProofs (disch := first | omega | (simp only [lenr]; done) | (simp only [lenr]; omega)) only [↓amPre, amAll, ↓reduceIte, reduceCtorEq, Nat.reduceEqDiff, Nat.reduceBEq, Nat.reduceAdd, Nat.reduceLeDiff, Nat.reduceSub, Nat.reduceMul, Int.reduceToNat, List.size_toArray, tyF, MM, bu0, ipure, kpure, tpure, sspure, kset, tset, ksnoc, tsnoc, Kind.av, Twist.sl, Twist.tr, Invar.av, f5, f0, f1]
    rw [List.take_length] at ek
    have : ¬ x ∈ l := fun q => ek x q rfl
    simp [this]
theorem sIsPerm (p : List Int) (hl : p.length ≤ 1099511627776) : SpecAt Tryd.prog 65 [isl p] (.bl (decide (isPerm p))) := by
  refine spec_of_awp (M := MM) (np := 1) (fz := true) mixed Tryd.func65 rfl rfl (by decide) rfl (Nat.le_refl _) (by decide +kernel) (.inr ⟨rfl, rfl⟩) trivial ?_
  simp -dsimp -implicitDefEqProofs (disch := first | omega | (simp only [lenr]; done) | (simp only [lenr]; omega)) only [↓amPre, amAll, ↓reduceIte, reduceCtorEq, Nat.reduceEqDiff, Nat.reduceBEq, Nat.reduceAdd, Nat.reduceLeDiff, Nat.reduceSub, Nat.reduceMul, Int.reduceToNat, List.size_toArray, tyF, MM, bu0, ipure, kpure, tpure, sspure, kset, tset, ksnoc, tsnoc, Kind.av, Twist.sl, Twist.tr, Invar.av]
  refine callP_of (inRange _ _ _) ?_
  cases w : within p.length 1 20 with
  | false =>
    simp -dsimp -implicitDefEqProofs (disch := first | omega | (simp only [lenr]; done) | (simp only [lenr]; omega)) only [↓amPre, amAll, ↓reduceIte, reduceCtorEq, Nat.reduceEqDiff, Nat.reduceBEq, Nat.reduceAdd, Nat.reduceLeDiff, Nat.reduceSub, Nat.reduceMul, Int.reduceToNat, List.size_toArray, tyF, MM, bu0, ipure, kpure, tpure, sspure, kset, tset, ksnoc, tsnoc, Kind.av, Twist.sl, Twist.tr, Invar.av, w]
    rw [within_not] at w
    have : ¬ isPerm p := fun h => by unfold isPerm at h; omega
    simp [this]
  | true =>
  rw [within_iff] at w
  simp -dsimp -implicitDefEqProofs (disch := first | omega | (simp only [lenr]; done) | (simp only [lenr]; omega)) only [↓amPre, amAll, ↓reduceIte, reduceCtorEq, Nat.reduceEqDiff, Nat.reduceBEq, Nat.reduceAdd, Nat.reduceLeDiff, Nat.reduceSub, Nat.reduceMul, Int.reduceToNat, List.size_toArray, tyF, MM, bu0, ipure, kpure, tpure, sspure, kset, tset, ksnoc, tsnoc, Kind.av, Twist.sl, Twist.tr, Invar.av, within_iff.2 w]
  refine awp_loop (fun k st => k ≤ p.length ∧ st.fr 4 = .i64 k ∧ st.fr 0 = isl p ∧ st.fr 3 = .i64 p.length ∧ (∀ x ∈ p.take k, 0 ≤ x ∧ x < p.length) ∧ (p.take k).Nodup) (p.length) ?_ ?_
  · simp -dsimp -implicitDefEqProofs (disch := first | omega | (simp only [lenr]; done) | (simp only [lenr]; omega)) only [↓amPre, amAll, ↓reduceIte, reduceCtorEq, Nat.reduceEqDiff, Nat.reduceBEq, Nat.reduceAdd, Nat.reduceLeDiff, Nat.reduceSub, Nat.reduceMul, Int.reduceToNat, List.size_toArray, tyF, MM, bu0, ipure, kpure, tpure, sspure, kset, tset, ksnoc, tsnoc, Kind.av, Twist.sl, Twist.tr, Invar.av]
    simp
  rintro k st _ ⟨hk, f4, f0, f3, ek⟩
  by_cases hlt : k < p.length
  · have hmem := mem_getD p k 0 hlt
    simp -dsimp -implicitDefEqProofs (disch := first | omega | (simp only [lenr]; done) | (simp only [lenr]; omega)) only [↓amPre, amAll, ↓reduceIte, reduceCtorEq, Nat.reduceEqDiff, Nat.reduceBEq, Nat.reduceAdd, Nat.reduceLeDiff, Nat.reduceSub, Nat.reduceMul, Int.reduceToNat, List.size_toArray, tyF, MM, bu0, ipure, kpure, tpure, sspure, kset, tset, ksnoc, tsnoc, Kind.av, Twist.sl, Twist.tr, Invar.av, f4, f0, f3]
    refine callP_of (inRange _ _ _) ?_
    cases w2 : within (p.getD k 0) 0 (p.length - 1) with
    | false =>
      simp -dsimp -implicitDefEqProofs (disch := first | omega | (simp only [lenr]; done) | (simp only [lenr]; omega)) only [↓amPre, amAll, ↓reduceIte, reduceCtorEq, Nat.reduceEqDiff, Nat.reduceBEq, Nat.reduceAdd, Nat.reduceLeDiff, Nat.reduceSub, Nat.reduceMul, Int.reduceToNat, List.size_toArray, tyF, MM, bu0, ipure, kpure, tpure, sspure, kset, tset, ksnoc, tsnoc, Kind.av, Twist.sl, Twist.tr, Invar.av, w2]
      rw [within_not] at w2
      have : ¬ isPerm p := fun h => by have := h.2.1 _ hmem; omega
      simp [this]
    | true =>
    simp -dsimp -implicitDefEqProofs (disch := first | omega | (simp only [lenr]; done) | (simp only [lenr]; omega)) only [↓amPre, amAll, ↓reduceIte, reduceCtorEq, Nat.reduceEqDiff, Nat.reduceBEq, Nat.reduceAdd, Nat.reduceLeDiff, Nat.reduceSub, Nat.reduceMul, Int.reduceToNat, List.size_toArray, tyF, MM, bu0, ipure, kpure, tpure, sspure, kset, tset, ksnoc, tsnoc, Kind.av, Twist.sl, Twist.tr, Invar.av, w2, f4, f0, f3]
    refine callP_of (containsInt _ _ (by simp; omega)) ?_
    have hs := take_succ_eq p k 0 hlt
    cases w3 : decide (p.getD k 0 ∈ p.take k) with
    | true =>
      simp -dsimp -implicitDefEqProofs (disch := first | omega | (simp only [lenr]; done) | (simp only [lenr]; omega)) only [↓amPre, amAll, ↓reduceIte, reduceCtorEq, Nat.reduceEqDiff, Nat.reduceBEq, Nat.reduceAdd, Nat.reduceLeDiff, Nat.reduceSub, Nat.reduceMul, Int.reduceToNat, List.size_toArray, tyF, MM, bu0, ipure, kpure, tpure, sspure, kset, tset, ksnoc, tsnoc, Kind.av, Twist.sl, Twist.tr, Invar.av, w3]
      simp only [beq_iff_eq, bne_iff_ne, ne_eq, beq_eq_false_iff_ne, bne_eq_false_iff_eq, decide_eq_true_eq, decide_eq_false_iff_not, Bool.not_eq_true', Bool.not_eq_false', Int.not_lt, Int.not_le, Bool.and_eq_true, Bool.or_eq_true, Bool.and_eq_false_iff, Bool.or_eq_false_iff, Decidable.not_not] at w3
      have : ¬ isPerm p := fun h => by
        have h2 := h.2.2
        have h3 : (p.take (k + 1)).Nodup := h2.sublist (List.take_sublist _ _)
        rw [hs, List.nodup_append] at h3
        exact h3.2.2 _ (by simpa using w3) _ (by simp) rfl
      simp [this]
    | false =>
      simp -dsimp -implicitDefEqProofs (disch := first | omega | (simp only [lenr]; done) | (simp only [lenr]; omega)) only [↓amPre, amAll, ↓reduceIte, reduceCtorEq, Nat.reduceEqDiff, Nat.reduceBEq, Nat.reduceAdd, Nat.reduceLeDiff, Nat.reduceSub, Nat.reduceMul, Int.reduceToNat, List.size_toArray, tyF, MM, bu0, ipure, kpure, tpure, sspure, kset, tset, ksnoc, tsnoc, Kind.av, Twist.sl, Twist.tr, Invar.av, w3, f4, f0, f3]
      simp only [decide_eq_false_iff_not] at w3
      rw [within_iff] at w2
      refine ⟨hlt, hlt, ?_, ?_⟩
      · rw [mem_take_succ (d := 0) hlt]; exact ⟨ek.1, by omega⟩
      · rw [hs, List.nodup_append]
        refine ⟨ek.2, by simp, ?_⟩
        intro a ha b hb e
        simp only [List.mem_singleton] at hb
        rw [e, hb] at ha; exact w3 ha
  · have hke : k = p.length := by omega
    subst hke
    rw [List.take_length] at ek
    simp -dsimp -implicitDefEqProofs (disch := first | omega | (simp only [lenr]; done) | (simp only [lenr]; omega)) only [↓amPre, amAll, ↓reduceIte, reduceCtorEq, Nat.reduceEqDiff, Nat.reduceBEq, Nat.reduceAdd, Nat.reduceLeDiff, Nat.reduceSub, Nat.reduceMul, Int.reduceToNat, List.size_toArray, tyF, MM, bu0, ipure, kpure, tpure, sspure, kset, tset, ksnoc, tsnoc, Kind.av, Twist.sl, Twist.tr, Invar.av, f4, f0, f3]
    have : isPerm p := ⟨by omega, ek.1, ek.2⟩
    simp [this]
theorem iIsPerm (p : List Int) (hl : p.length ≤ 1099511627776) : SpecAt Tryd.prog 70 [isl p] (.bl (decide (isPerm p))) := by
  refine spec_of_awp (M := MM) (np := 1) (fz := true) mixed Tryd.func70 rfl rfl (by decide) rfl (Nat.le_refl _) (by decide +kernel) (.inr ⟨rfl, rfl⟩) trivial ?_
  simp -dsimp -implicitDefEqProofs (disch := first | omega | (simp only [lenr]; done) | (simp only [lenr]; omega)) only [↓amPre, amAll, ↓reduceIte, reduceCtorEq, Nat.reduceEqDiff, Nat.reduceBEq, Nat.reduceAdd, Nat.reduceLeDiff, Nat.reduceSub, Nat.reduceMul, Int.reduceToNat, List.size_toArray, tyF, MM, bu0, ipure, kpure, tpure, sspure, kset, tset, ksnoc, tsnoc, Kind.av, Twist.sl, Twist.tr, Invar.av]
  refine callP_of (lenI _) ?_
  simp -dsimp -implicitDefEqProofs (disch := first | omega | (simp only [lenr]; done) | (simp only [lenr]; omega)) only [↓amPre, amAll, ↓reduceIte, reduceCtorEq, Nat.reduceEqDiff, Nat.reduceBEq, Nat.reduceAdd, Nat.reduceLeDiff, Nat.reduceSub, Nat.reduceMul, Int.reduceToNat, List.size_toArray, tyF, MM, bu0, ipure, kpure, tpure, sspure, kset, tset, ksnoc, tsnoc, Kind.av, Twist.sl, Twist.tr, Invar.av]
  refine callP_of (iwithin _ _ _) ?_
  cases w : within p.length 1 20 with
  | false =>
    simp -dsimp -implicitDefEqProofs (disch := first | omega | (simp only [lenr]; done) | (simp only [lenr]; omega)) only [↓amPre, amAll, ↓reduceIte, reduceCtorEq, Nat.reduceEqDiff, Nat.reduceBEq, Nat.reduceAdd, Nat.reduceLeDiff, Nat.reduceSub, Nat.reduceMul, Int.reduceToNat, List.size_toArray, tyF, MM, bu0, ipure, kpure, tpure, sspure, kset, tset, ksnoc, tsnoc, Kind.av, Twist.sl, Twist.tr, Invar.av, w]
    rw [within_not] at w
    have : ¬ isPerm p := fun h => by unfold isPerm at h; omega
    simp [this]
  | true =>
  rw [within_iff] at w
  simp -dsimp -implicitDefEqProofs (disch := first | omega | (simp only [lenr]; done) | (simp only [lenr]; omega)) only [↓amPre, amAll, ↓reduceIte, reduceCtorEq, Nat.reduceEqDiff, Nat.reduceBEq, Nat.reduceAdd, Nat.reduceLeDiff, Nat.reduceSub, Nat.reduceMul, Int.reduceToNat, List.size_toArray, tyF, MM, bu0, ipure, kpure, tpure, sspure, kset, tset, ksnoc, tsnoc, Kind.av, Twist.sl, Twist.tr, Invar.av, within_iff.2 w]
  refine awp_loop (fun k st => k ≤ p.length ∧ st.fr 12 = .i64 k ∧ st.fr 0 = isl p ∧ st.fr 10 = isl p ∧ st.fr 11 = .i64 p.length ∧ st.fr 3 = .i64 (mask (p.take k)) ∧ (∀ x ∈ p.take k, 0 ≤ x ∧ x < p.length)) (p.length) ?_ ?_
  · simp -dsimp -implicitDefEqProofs (disch := first | omega | (simp only [lenr]; done) | (simp only [lenr]; omega)) only [↓amPre, amAll, ↓reduceIte, reduceCtorEq, Nat.reduceEqDiff, Nat.reduceBEq, Nat.reduceAdd, Nat.reduceLeDiff, Nat.reduceSub, Nat.reduceMul, Int.reduceToNat, List.size_toArray, tyF, MM, bu0, ipure, kpure, tpure, sspure, kset, tset, ksnoc, tsnoc, Kind.av, Twist.sl, Twist.tr, Invar.av]
    simp [mask, maskN]
  rintro k st _ ⟨hk, f12, f0, f10, f11, f3, ek⟩
  by_cases hlt : k < p.length
  · have hmem := mem_getD p k 0 hlt
    simp -dsimp -implicitDefEqProofs (disch := first | omega | (simp only [lenr]; done) | (simp only [lenr]; omega)) only [↓amPre, amAll, ↓reduceIte, reduceCtorEq, Nat.reduceEqDiff, Nat.reduceBEq, Nat.reduceAdd, Nat.reduceLeDiff, Nat.reduceSub, Nat.reduceMul, Int.reduceToNat, List.size_toArray, tyF, MM, bu0, ipure, kpure, tpure, sspure, kset, tset, ksnoc, tsnoc, Kind.av, Twist.sl, Twist.tr, Invar.av, f12, f0, f10, f11, f3]
    refine callP_of (lenI _) ?_
    simp -dsimp -implicitDefEqProofs (disch := first | omega | (simp only [lenr]; done) | (simp only [lenr]; omega)) only [↓amPre, amAll, ↓reduceIte, reduceCtorEq, Nat.reduceEqDiff, Nat.reduceBEq, Nat.reduceAdd, Nat.reduceLeDiff, Nat.reduceSub, Nat.reduceMul, Int.reduceToNat, List.size_toArray, tyF, MM, bu0, ipure, kpure, tpure, sspure, kset, tset, ksnoc, tsnoc, Kind.av, Twist.sl, Twist.tr, Invar.av, f12, f0, f10, f11, f3]
    refine callP_of (iwithin _ _ _) ?_
    cases w2 : within (p.getD k 0) 0 (p.length - 1) with
    | false =>
      simp -dsimp -implicitDefEqProofs (disch := first | omega | (simp only [lenr]; done) | (simp only [lenr]; omega)) only [↓amPre, amAll, ↓reduceIte, reduceCtorEq, Nat.reduceEqDiff, Nat.reduceBEq, Nat.reduceAdd, Nat.reduceLeDiff, Nat.reduceSub, Nat.reduceMul, Int.reduceToNat, List.size_toArray, tyF, MM, bu0, ipure, kpure, tpure, sspure, kset, tset, ksnoc, tsnoc, Kind.av, Twist.sl, Twist.tr, Invar.av, w2]
      rw [within_not] at w2
      have : ¬ isPerm p := fun h => by have := h.2.1 _ hmem; omega
      simp [this]
    | true =>
    have w2' := within_iff.1 w2
    obtain ⟨n, hn⟩ : ∃ n : Nat, p.getD k 0 = n := ⟨(p.getD k 0).toNat, by omega⟩
    have hn20 : n < 20 := by omega
    have hp : (2:Nat) ^ n < 2 ^ 20 := Nat.pow_lt_pow_right (by decide) hn20
    have hsh : IntKind.i64.wrap (1 * 2 ^ (min (p.getD k 0).toNat 64)) = ((2 ^ n : Nat) : Int) := by
      have e2 : (2:Int) ^ n = ((2 ^ n : Nat) : Int) := by simp
      rw [hn, Int.toNat_natCast, Nat.min_eq_left (by omega), Int.one_mul, e2]
      generalize (2 ^ n : Nat) = m at hp ⊢
      exact wrap64_id (by omega)
    have hm1 := mask_lt (p.take k) 20 fun x hx => by have := ek x hx; omega
    have hm2 := mask_lt (p.take k) p.length ek
    have hor : bitsI .or .i64 (mask (p.take k) : Int) ((2 ^ n : Nat) : Int) = ((mask (p.take (k + 1)) : Nat) : Int) := by
      rw [bits_or _ _ (by omega) (by omega), take_succ_eq p k 0 hlt, mask_snoc, hn, Int.toNat_natCast]
    have hb : (IntKind.i64.bits) = 64 := rfl
    simp -dsimp -implicitDefEqProofs (disch := first | omega | (simp only [lenr]; done) | (simp only [lenr]; omega)) only [↓amPre, amAll, ↓reduceIte, reduceCtorEq, Nat.reduceEqDiff, Nat.reduceBEq, Nat.reduceAdd, Nat.reduceLeDiff, Nat.reduceSub, Nat.reduceMul, Int.reduceToNat, List.size_toArray, tyF, MM, bu0, ipure, kpure, tpure, sspure, kset, tset, ksnoc, tsnoc, Kind.av, Twist.sl, Twist.tr, Invar.av, w2, f12, f0, f10, f11, f3, hb, hsh, hor]
    refine ⟨hlt, hlt, ?_⟩
    rw [mem_take_succ (d := 0) hlt]; exact ⟨ek, by omega⟩
  · have hke : k = p.length := by omega
    subst hke
    rw [List.take_length] at ek f3
    have hp : (2:Nat) ^ p.length ≤ 2 ^ 20 := Nat.pow_le_pow_right (by decide) (by omega)
    have hsh : IntKind.i64.wrap (1 * 2 ^ (min p.length 64)) = ((2 ^ p.length : Nat) : Int) := by
      have e2 : (2:Int) ^ p.length = ((2 ^ p.length : Nat) : Int) := by simp
      rw [Nat.min_eq_left (by omega), Int.one_mul, e2]
      generalize (2 ^ p.length : Nat) = m at hp ⊢
      exact wrap64_id (by omega)
    have hwr : IntKind.i64.wrap (((2 ^ p.length : Nat) : Int) - 1) = ((2 ^ p.length : Nat) : Int) - 1 := by
      generalize (2 ^ p.length : Nat) = m at hp ⊢
      exact wrap64_id (by omega)
    have hb : (IntKind.i64.bits) = 64 := rfl
    simp -dsimp -implicitDefEqProofs (disch := first | omega | (simp only [lenr]; done) | (simp only [lenr]; omega)) only [↓amPre, amAll, ↓reduceIte, reduceCtorEq, Nat.reduceEqDiff, Nat.reduceBEq, Nat.reduceAdd, Nat.reduceLeDiff, Nat.reduceSub, Nat.reduceMul, Int.reduceToNat, List.size_toArray, tyF, MM, bu0, ipure, kpure, tpure, sspure, kset, tset, ksnoc, tsnoc, Kind.av, Twist.sl, Twist.tr, Invar.av, f12, f0, f10, f11, f3, hb, hsh, hwr]
    refine bl_eq ?_
    have h1 := mask_perm p ek
    have h2 : (0:Nat) < 2 ^ p.length := Nat.pow_pos (by decide)
    have h3 : isPerm p ↔ p.Nodup := ⟨fun h => h.2.2, fun h => ⟨by omega, ek, h⟩⟩
    simp only [beq_iff_eq, decide_eq_true_eq, h3, ← h1]
    generalize (2 ^ p.length : Nat) = m at h2 ⊢
    omega
end Go.AM
namespace Go.AM
/-! cycles, plainly -/
def itN (f : Nat → Nat) : Nat → Nat → Nat
  | 0, x => x
  | k + 1, x => f (itN f k x)
structure PermF (n : Nat) (f : Nat → Nat) : Prop where
  lt : ∀ x, x < n → f x < n
  inj : ∀ x y, x < n → y < n → f x = f y → x = y
section
variable {n : Nat} {f : Nat → Nat}
def perN (n : Nat) (f : Nat → Nat) (x : Nat) : Nat := ((List.range n).find? fun k => itN f (k + 1) x == x).getD 0 + 1
def orbN (n : Nat) (f : Nat → Nat) (x : Nat) : List Nat := (List.range (perN n f x)).map fun i => itN f i x
def minN (n : Nat) (f : Nat → Nat) (x : Nat) : Bool := (orbN n f x).all fun y => decide (x ≤ y)
def cycN (n : Nat) (f : Nat → Nat) : List (List Nat) := ((List.range n).filter (minN n f)).map (orbN n f)
end
def fOf (p : List Int) : Nat → Nat := fun x => (p.getD x 0).toNat
def orbI (p : List Int) (x : Nat) : List Int := (orbN p.length (fOf p) x).map fun (y : Nat) => (y : Int)
def minI (p : List Int) (x : Nat) : Bool := minN p.length (fOf p) x
/-- the cycles of a permutation, fixed points included, by their smallest points -/
def cycI (p : List Int) : List (List Int) := ((List.range p.length).filter (minI p)).map (orbI p)
def sgnI (p : List Int) : Int := if (p.length - (cycI p).length) % 2 = 1 then -1 else 1
instance : Thing Bool := ⟨⟩
def seenB (p : List Int) (i y : Nat) : Bool := (List.range i).any fun z => decide (y ∈ orbN p.length (fOf p) z)
def seenJ (p : List Int) (i j : Nat) : List Bool := (List.range p.length).map fun y => seenB p i y || decide (y ∈ (orbN p.length (fOf p) i).take j)
section
variable {p : List Int} (hp : isPerm p)
include hp
end
end Go.AM
namespace Go.AM
/-! sizes of moves -/
def sizeLL (l : List (List Twist)) : Nat := match l with | [] => 0 | a :: r => 1 + sizeL a + sizeLL r
theorem sizeLL_append : ∀ a b : List (List Twist), sizeLL (a ++ b) = sizeLL a + sizeLL b
  | [], b => by simp [sizeLL]
  | x :: r, b => by simp only [List.cons_append, sizeLL, sizeLL_append r b]; omega
theorem sizeLL_take (l : List (List Twist)) (i : Nat) (h : i < l.length) : sizeLL (l.take (i + 1)) = sizeLL (l.take i) + 1 + sizeL (l.getD i default) := by
  rw [take_succ_eq l i default h, sizeLL_append]; simp [sizeLL]; omega
theorem sizeLL_le (l : List (List Twist)) (i : Nat) : sizeLL (l.take i) ≤ sizeLL l := by
  have := sizeLL_append (l.take i) (l.drop i)
  rw [List.take_append_drop] at this
  omega
theorem sizeLL_len : ∀ l : List (List Twist), l.length ≤ sizeLL l
  | [] => by simp [sizeLL]
  | a :: r => by have := sizeLL_len r; simp only [sizeLL, List.length_cons]; omega
theorem sizeLL_take_ge (l : List (List Twist)) (i : Nat) (h : i ≤ l.length) : i ≤ sizeLL (l.take i) := by
  have := sizeLL_len (l.take i); rw [List.length_take] at this; omega
theorem sizeLL_mem : ∀ {l : List (List Twist)} {a : List Twist}, a ∈ l → sizeL a ≤ sizeLL l
  | b :: r, a, h => by
    rcases List.mem_cons.1 h with rfl | h
    · simp only [sizeLL]; omega
    · have := sizeLL_mem h; simp only [sizeLL]; omega
theorem cnts_LL : ∀ l : List (List Twist), cnts l ≤ sizeLL l
  | [] => by simp [cnts]
  | a :: r => by
    have := cnts_LL r
    have e : Mk.cnt a = cnts a := rfl
    simp only [cnts, sizeLL, e, sizeL]; omega
end Go.AM
namespace Go.AM
/-! lists of invariants -/
abbrev vsl (l : List Invar) : AV := .sl 2 (l.map Invar.av)
abbrev vtr (l : List Invar) : AV := .tr 2 (l.map Invar.av)
theorem vset (l : List Invar) (i : Nat) (a b : Int) : (l.map Invar.av).set i (.agg [.i64 a, .i64 b]) = (l.set i ⟨a, b⟩).map Invar.av := by rw [List.map_set]; rfl
theorem vsnoc (l : List Invar) (a b : Int) : l.map Invar.av ++ [.agg [.i64 a, .i64 b]] = (l ++ [(⟨a, b⟩ : Invar)]).map Invar.av := by simp [Invar.av]
theorem vpure (l : List Invar) : AV.pureL (l.map Invar.av) = true := pureL_map _ (fun _ => rfl) l
def twL (k : Nat) : List Invar := (List.range k).map fun (i : Nat) => ⟨1, (i : Int)⟩
def paL (k : Nat) : List Invar := (List.range k).map fun (i : Nat) => ⟨2, ((i + 1 : Nat) : Int)⟩
end Go.AM
namespace Go.AM
/-! puzzles, plainly -/
def sizeI (l : List (List Int)) : Nat := match l with | [] => 0 | a :: r => 1 + a.length + sizeI r
structure Puzz where
  n : Int
  nm : List UInt8
  mv : List (List Int)
  deriving DecidableEq
def Puzz.sl (p : Puzz) : AV := .agg [.i64 p.n, .st p.nm, ssl p.mv]
def Puzz.tr (p : Puzz) : AV := .agg [.i64 p.n, .st p.nm, sst p.mv]
end Go.AM
namespace Go.AM
/-! the library's contracts in this machine's words: plain values in, a plain value out -/
theorem Held.same {I : Gh} {w w' : World} (hh : Held I w) (h : ∀ b o x, I b o = some x → w'.heap[b]? = w.heap[b]?) : Held I w' :=
  ⟨fun b o x hx => by
    have h1 := hh.cell b o x hx
    exact ⟨(World.cell?_of_block (w := w) (a := ⟨b, o, none⟩) (h b o x hx)).trans h1.1, h1.2⟩,
   fun b cs hc => by
    obtain ⟨t, f, x, h1, h2⟩ := hh.base b cs hc
    exact ⟨t, f, x, (h b 0 x h2).trans h1, h2⟩⟩
theorem grow_block (w : World) (k : Nat) (os : Array Obj) {b : Nat} (h : b < w.heap.size) : (Sort.grow (w.drewN k) os).heap[b]? = w.heap[b]? := by
  simp only [Sort.grow, World.drewN]
  rw [Array.getElem?_append_left h]
theorem grow_size (w : World) (k : Nat) (os : Array Obj) : w.heap.size ≤ (Sort.grow (w.drewN k) os).heap.size := by
  simp only [Sort.grow, World.drewN, Array.size_append]; omega
theorem tab_of {P : Program} {w : World} {name : String} {k : IntKind} {zs : List Int} {g t : Nat} {f : Nat × Nat} (hg : P.globalNamed name = some g) (h : w.heap[g]? = some (.cells (zs.map fun z => Value.int k z).toArray t f)) : Lib.TabIs P w name k zs := by
  unfold Lib.TabIs World.var?
  rw [hg]
  simp [h]
theorem spec_static {P : Program} {f : FuncId} (hb : HasBody P f) (xs : List Value) (y : Value)
    (hs : ∀ I w, Held I w → Calls P f xs.toArray w fun e w' => e = .returned y ∧ ∃ k os, w' = Sort.grow (w.drewN k) os) : SpecAt P f (xs.map .v) (.v y) := by
  refine ⟨hb, by simp, fun j T hj => by simp at hj, fun I π w vals hI hvs hsep htop => ?_⟩
  obtain rfl : vals = xs.toArray := by
    apply Array.ext
    · simpa using hvs
    · intro j h1 h2
      have h2' : j < (xs.map AV.v).length := by simpa using h2
      have q0 := htop j h2' h1
      have e : (xs.map AV.v)[j] = .v (xs[j]'(by simpa using h2)) := by simp
      rw [e] at q0
      have q := rep_v (ρ := π) (.stat (top_stat q0 rfl))
      rw [q]
      simp
  have hn : ∀ p, ((AV.v y).at p).isNode = false := fun p => rs_at (RepS.v (I := I) y) p
  have hm : ∀ {i T p}, outMem (xs.map AV.v).length [] (.v y) i = some T → (T.at p).isNode = true → False := fun {i T p} h1 h2 => by
    unfold outMem at h1
    split at h1
    · cases h1; rw [hn p] at h2; cases h2
    · simp at h1
  refine (hs I w hI).mono ?_
  rintro e w' ⟨rfl, k, os, rfl⟩
  refine ⟨I, π, y, rfl, hI.same fun b o x hx => grow_block w k os (hI.lt hx), ⟨fun i T p h1 => ?_, fun i T p k h1 h2 _ => (hm h1 h2).elim, fun i T p k i' T' p' k' h1 h2 _ _ _ _ _ => (hm h1 h2).elim⟩, .inr ⟨rfl, .v y⟩, fun j T hT => by simp at hT, ⟨rfl, rfl, rfl, grow_size w k os, fun b h1 _ => grow_block w k os h1⟩, fun _ _ _ => rfl, fun b ⟨i, T, p, k, h1, h2, _⟩ => (hm h1 h2).elim⟩
  cases hnn : (T.at p).isNode with
  | false => exact node_false hnn
  | true => exact (hm h1 hnn).elim
end Go.AM
set_option maxRecDepth 8000
namespace Go.AM
namespace Door
/-! texts that are joined, plainly; the library's Join in this machine's words -/
theorem join_snoc (xs : List (List UInt8)) (x sep : List UInt8) : Lib.join (xs ++ [x]) sep = Lib.join xs sep ++ (if xs = [] then [] else sep) ++ x := by
  cases xs with
  | nil => simp [Lib.join_nil, Lib.join_one]
  | cons a r =>
    rw [List.cons_append, Lib.join_cons, Lib.join_cons]
    simp [Lib.joinTail, List.append_assoc]
theorem join_take (xs : List (List UInt8)) (sep : List UInt8) (k : Nat) (h : k < xs.length) : Lib.join (xs.take (k + 1)) sep = Lib.join (xs.take k) sep ++ (if k = 0 then [] else sep) ++ xs.getD k [] := by
  rw [take_succ_eq xs k [] h, join_snoc]
  by_cases hk : k = 0
  · subst hk; simp
  · have : xs.take k ≠ [] := by
      intro e
      have := congrArg List.length e
      rw [List.length_take, List.length_nil] at this
      omega
    simp [hk, this]
theorem lens_le (b : Nat) : ∀ xs : List (List UInt8), (∀ x ∈ xs, x.length ≤ b) → Lib.lens xs ≤ b * xs.length
  | [], _ => by simp [Lib.lens]
  | x :: r, h => by
    have h1 := lens_le b r fun y hy => h y (List.mem_cons_of_mem _ hy)
    have h2 := h x List.mem_cons_self
    simp only [Lib.lens, List.map_cons, List.sum_cons, List.length_cons] at h1 ⊢
    rw [Nat.mul_succ]; omega
theorem join_len (xs : List (List UInt8)) (sep : List UInt8) (b : Nat) (h : ∀ x ∈ xs, x.length ≤ b) : (Lib.join xs sep).length ≤ (b + sep.length) * xs.length := by
  cases xs with
  | nil => simp [Lib.join_nil]
  | cons x r =>
    rw [Lib.join_cons, List.length_append, Lib.joinTail_length]
    have h1 := lens_le b r fun y hy => h y (List.mem_cons_of_mem _ hy)
    have h2 := h x List.mem_cons_self
    simp only [List.length_cons]
    rw [Nat.add_mul, Nat.mul_succ, Nat.mul_succ]; omega
/-- numbers with blanks between -/
def jn (l : List Int) : List UInt8 := Lib.join (l.map Lib.itoa) [32]
theorem itoa_len {x : Int} (h : intOk x) : (Lib.itoa x).length ≤ 21 := Lib.itoa_length_le x h.1 h.2
theorem jn_len (l : List Int) (h : ∀ x ∈ l, intOk x) : (jn l).length ≤ 22 * l.length := by
  have := join_len (l.map Lib.itoa) [32] 21 (fun x hx => by
    obtain ⟨y, hy, rfl⟩ := List.mem_map.1 hx
    exact itoa_len (h y hy))
  simpa [jn] using this
theorem spec_stat {P : Program} {f : FuncId} (hb : HasBody P f) (args : List AV) (hst : args.all (fun a => !a.nodeB) = true) (y : Value)
    (hs : ∀ I w (vals : Array Value), Held I w → vals.size = args.length → (∀ j (hj : j < args.length) (hk : j < vals.size), RepS I (args[j]) (vals[j])) → Calls P f vals w fun e w' => e = .returned y ∧ RowKit.Below w.heap.size w w') : SpecAt P f args (.v y) := by
  refine ⟨hb, by simp, fun j T hj => by simp at hj, fun I π w vals hI hvs hsep htop => ?_⟩
  have hn : ∀ p, ((AV.v y).at p).isNode = false := fun p => rs_at (RepS.v (I := I) y) p
  have hm : ∀ {i T p}, outMem args.length [] (.v y) i = some T → (T.at p).isNode = true → False := fun {i T p} h1 h2 => by
    unfold outMem at h1
    split at h1
    · cases h1; rw [hn p] at h2; cases h2
    · simp at h1
  refine (hs I w vals hI hvs fun j hj hk => top_stat (htop j hj hk) (by
    have := List.all_eq_true.1 hst _ (List.getElem_mem hj)
    simpa using this)).mono ?_
  rintro e w' ⟨rfl, hbel⟩
  refine ⟨I, π, y, rfl, hI.same fun b o x hx => hbel.block b (hI.lt hx), ⟨fun i T p h1 => ?_, fun i T p k h1 h2 _ => (hm h1 h2).elim, fun i T p k i' T' p' k' h1 h2 _ _ _ _ _ => (hm h1 h2).elim⟩, .inr ⟨rfl, .v y⟩, fun j T hT => by simp at hT, ⟨hbel.os, hbel.tape, hbel.output, hbel.size, fun b h1 _ => hbel.block b h1⟩, fun _ _ _ => rfl, fun b ⟨i, T, p, k, h1, h2, _⟩ => (hm h1 h2).elim⟩
  cases hnn : (T.at p).isNode with
  | false => exact node_false hnn
  | true => exact (hm h1 hnn).elim
/-- strings.Join -/
theorem spec_join {P : Program} {f : FuncId} (hb : HasBody P f)
    (hs : ∀ (bk o c : Nat) (xs : List ByteArray) (sep : ByteArray) (w : World), (∀ (j : Nat) x, xs[j]? = some x → w.cell? ⟨bk, o + j, none⟩ = some (.string x)) → bk < w.heap.size → xs.length ≤ 140737488355328 → xs.length ≤ c →
      (Lib.join (xs.map (·.data.toList)) sep.data.toList).length ≤ 140737488355328 →
      Calls P f #[.slice (some ⟨bk, o, none⟩) xs.length c, .string sep] w fun e w' => e = .returned (.string ⟨(Lib.join (xs.map (·.data.toList)) sep.data.toList).toArray⟩) ∧ RowKit.Below w.heap.size w w')
    (hn : ∀ (a : Option Addr) (c : Nat) (sep : ByteArray) (w : World), Calls P f #[.slice a 0 c, .string sep] w fun e w' => e = .returned (.string ⟨#[]⟩) ∧ w' = w)
    (xs : List (List UInt8)) (sep : List UInt8) (hN : xs.length ≤ 1099511627776) (hl : (Lib.join xs sep).length ≤ 140737488355328) : SpecAt P f [.sl 1 (xs.map AV.st), .st sep] (.st (Lib.join xs sep)) := by
  refine spec_stat hb _ rfl _ fun I w vals hI hvs hr => ?_
  obtain ⟨v0, v1, rfl⟩ : ∃ v0 v1, vals = #[v0, v1] := by
    match vals, hvs with
    | ⟨[a, b]⟩, _ => exact ⟨a, b, rfl⟩
  have h0 := hr 0 (by simp) (by simp)
  have h1 := hr 1 (by simp) (by simp)
  have e1 : v1 = .string ⟨sep.toArray⟩ := by
    have h1 : RepS I (.st sep) v1 := h1
    cases h1; rfl
  subst e1
  have h0 : RepS I (.sl 1 (xs.map AV.st)) v0 := h0
  have nil : ∀ a c, xs = [] → v0 = .slice a 0 c → Calls P f #[v0, .string ⟨sep.toArray⟩] w fun e w' => e = .returned (.string ⟨(Lib.join xs sep).toArray⟩) ∧ RowKit.Below w.heap.size w w' := by
    rintro a c rfl rfl
    refine (hn a c _ w).mono ?_
    rintro e w' ⟨rfl, rfl⟩
    exact ⟨by rw [Lib.join_nil], ⟨rfl, rfl, rfl, Nat.le_refl _, fun _ _ => rfl⟩⟩
  generalize hes : xs.map AV.st = es at h0
  cases h0 with
  | nil _ a => exact nil a 0 (by simpa using hes) rfl
  | nila _ a c => exact nil (some a) c (by simpa using hes) rfl
  | sl _ _ b off cap vs hsz hc hI' hr' =>
    subst hes
    by_cases hx : xs = []
    · have := nil (some ⟨b, off, none⟩) cap hx (by simp [hx])
      exact this
    have hcell : ∀ i (hi : i < xs.length), w.cell? ⟨b, off + i, none⟩ = some (.string ⟨(xs[i]).toArray⟩) := fun i hi => by
      have hi' : i < (xs.map AV.st).length := by simpa using hi
      have q := (hI.cell b (off + i * 1 + 0) _ (hI' i hi' 0 (by omega))).1
      have hlen : 0 < (((xs.map AV.st)[i]).cells).length := by simp [AV.cells]
      have q2 := hr' i hi' 0 hlen
      have e : (((xs.map AV.st)[i]).cells)[0] = AV.st (xs[i]) := by simp [AV.cells]
      rw [e] at q2
      have q3 : vs i 0 = .string ⟨(xs[i]).toArray⟩ := by
        generalize hv : vs i 0 = v at q2
        cases q2; rfl
      rw [q3] at q
      simpa using q
    have hblk : b < w.heap.size := by
      have hpos : 0 < xs.length := List.length_pos_iff.2 hx
      exact hI.lt (hI' 0 (by simpa using hpos) 0 (by omega))
    have key := hs b off cap (xs.map fun l => ⟨l.toArray⟩) ⟨sep.toArray⟩ w (fun j x hj => by
      rw [List.getElem?_map] at hj
      obtain ⟨l, hl1, rfl⟩ := Option.map_eq_some_iff.1 hj
      obtain ⟨hlt, rfl⟩ := List.getElem?_eq_some_iff.1 hl1
      exact hcell j hlt) hblk (by simp; omega) (by simpa using hc) (by
        have e : ((xs.map fun l => (⟨l.toArray⟩ : ByteArray)).map (·.data.toList)) = xs := by simp [List.map_map, Function.comp_def]
        rw [e]; exact hl)
    have e : ((xs.map fun l => (⟨l.toArray⟩ : ByteArray)).map (·.data.toList)) = xs := by simp [List.map_map, Function.comp_def]
    rw [e] at key
    simpa using key
end Door
end Go.AM
namespace Go.Proofs
open Go.Shelf
def Tryd.fmtL_ren : Go.Shelf.Ren := ⟨fun | 173 => 54 | 246 => 71 | 283 => 82 | 284 => 83 | 285 => 84 | 286 => 85 | 129 => 90 | 317 => 89 | 318 => 91 | 319 => 92 | 320 => 93 | 337 => 96 | 338 => 97 | n => n, fun | 2 => 2 | 3 => 3 | 9 => 9 | 4 => 4 | 171 => 113 | 0 => 0 | 53 => 114 | 37 => 82 | 5 => 5 | 173 => 117 | 212 => 123 | 51 => 124 | 20 => 20 | 213 => 125 | 46 => 127 | 232 => 133 | 233 => 134 | n => n, fun | 17 => 0 | 18 => 2 | 19 => 3 | n => n⟩
theorem Tryd.fmtL : Go.Proofs.LaysM.n173 Tryd.prog Tryd.fmtL_ren := {
  mixed := by kernel_rfl
  f129 := Tryd.func90.trans (congrArg some (by kernel_rfl))
  f173 := Tryd.func54.trans (congrArg some (by kernel_rfl))
  f246 := Tryd.func71.trans (congrArg some (by kernel_rfl))
  f283 := Tryd.func82.trans (congrArg some (by kernel_rfl))
  f284 := Tryd.func83.trans (congrArg some (by kernel_rfl))
  f285 := Tryd.func84.trans (congrArg some (by kernel_rfl))
  f286 := Tryd.func85.trans (congrArg some (by kernel_rfl))
  f317 := Tryd.func89.trans (congrArg some (by kernel_rfl))
  f318 := Tryd.func91.trans (congrArg some (by kernel_rfl))
  f319 := Tryd.func92.trans (congrArg some (by kernel_rfl))
  f320 := Tryd.func93.trans (congrArg some (by kernel_rfl))
  f337 := Tryd.func96.trans (congrArg some (by kernel_rfl))
  f338 := Tryd.func97.trans (congrArg some (by kernel_rfl))
  t0 := Tryd.underlying0
  a0 := Tryd.isAgg0
  z0 := Tryd.sizeOf0
  v0 := Tryd.zeroValue0
  t2 := Tryd.underlying2
  a2 := Tryd.isAgg2
  z2 := Tryd.sizeOf2
  v2 := Tryd.zeroValue2
  t3 := Tryd.underlying3
  a3 := Tryd.isAgg3
  z3 := Tryd.sizeOf3
  v3 := Tryd.zeroValue3
  t4 := Tryd.underlying4
  a4 := Tryd.isAgg4
  z4 := Tryd.sizeOf4
  v4 := Tryd.zeroValue4
  t5 := Tryd.underlying5
  a5 := Tryd.isAgg5
  z5 := Tryd.sizeOf5
  v5 := Tryd.zeroValue5
  t9 := Tryd.underlying9
  a9 := Tryd.isAgg9
  z9 := Tryd.sizeOf9
  v9 := Tryd.zeroValue9
  t20 := Tryd.underlying20
  a20 := Tryd.isAgg20
  z20 := Tryd.sizeOf20
  v20 := Tryd.zeroValue20
  t37 := Tryd.underlying82
  a37 := Tryd.isAgg82
  z37 := Tryd.sizeOf82
  v37 := Tryd.zeroValue82
  t46 := Tryd.underlying127
  a46 := Tryd.isAgg127
  z46 := Tryd.sizeOf127
  v46 := Tryd.zeroValue127
  t51 := Tryd.underlying124
  a51 := Tryd.isAgg124
  z51 := Tryd.sizeOf124
  v51 := Tryd.zeroValue124
  t53 := Tryd.underlying114
  a53 := Tryd.isAgg114
  z53 := Tryd.sizeOf114
  v53 := Tryd.zeroValue114
  t171 := Tryd.underlying113
  a171 := Tryd.isAgg113
  z171 := Tryd.sizeOf113
  v171 := Tryd.zeroValue113
  t173 := Tryd.underlying117
  a173 := Tryd.isAgg117
  z173 := Tryd.sizeOf117
  v173 := Tryd.zeroValue117
  t212 := Tryd.underlying123
  a212 := Tryd.isAgg123
  z212 := Tryd.sizeOf123
  v212 := Tryd.zeroValue123
  t213 := Tryd.underlying125
  a213 := Tryd.isAgg125
  z213 := Tryd.sizeOf125
  t232 := Tryd.underlying133
  a232 := Tryd.isAgg133
  z232 := Tryd.sizeOf133
  v232 := Tryd.zeroValue133
  t233 := Tryd.underlying134
  a233 := Tryd.isAgg134
  z233 := Tryd.sizeOf134
  v233 := Tryd.zeroValue134
  g17 := by kernel_rfl
  g18 := by kernel_rfl
  g19 := by kernel_rfl
  i0 := by kernel_rfl
  i2 := by kernel_rfl
  i3 := by kernel_rfl
  i4 := by kernel_rfl
  i5 := by kernel_rfl
  i9 := by kernel_rfl
  i20 := by kernel_rfl
  i37 := by kernel_rfl
  i46 := by kernel_rfl
  i51 := by kernel_rfl
  i53 := by kernel_rfl
  i171 := by kernel_rfl
  i173 := by kernel_rfl
  i212 := by kernel_rfl
  i232 := by kernel_rfl
  i233 := by kernel_rfl
  m17 := by kernel_rfl
  m18 := by kernel_rfl
  m19 := by kernel_rfl }
def Tryd.joinL_ren : Go.Shelf.Ren := ⟨fun | 156 => 55 | 165 => 72 | 166 => 73 | 169 => 74 | 240 => 86 | 241 => 87 | 276 => 94 | 277 => 95 | n => n, fun | 31 => 83 | 9 => 9 | 3 => 3 | 4 => 4 | 0 => 0 | 20 => 20 | 72 => 99 | 76 => 103 | 70 => 97 | 37 => 82 | 75 => 102 | 127 => 119 | 164 => 129 | 5 => 5 | 80 => 105 | n => n, fun | n => n⟩
theorem Tryd.joinL : Go.Proofs.Lays.n156 Tryd.prog Tryd.joinL_ren := {
  mixed := by kernel_rfl
  f156 := Tryd.func55.trans (congrArg some (by kernel_rfl))
  f165 := Tryd.func72.trans (congrArg some (by kernel_rfl))
  f166 := Tryd.func73.trans (congrArg some (by kernel_rfl))
  f169 := Tryd.func74.trans (congrArg some (by kernel_rfl))
  f240 := Tryd.func86.trans (congrArg some (by kernel_rfl))
  f241 := Tryd.func87.trans (congrArg some (by kernel_rfl))
  f276 := Tryd.func94.trans (congrArg some (by kernel_rfl))
  f277 := Tryd.func95.trans (congrArg some (by kernel_rfl))
  t0 := Tryd.underlying0
  a0 := Tryd.isAgg0
  z0 := Tryd.sizeOf0
  v0 := Tryd.zeroValue0
  t3 := Tryd.underlying3
  a3 := Tryd.isAgg3
  z3 := Tryd.sizeOf3
  v3 := Tryd.zeroValue3
  t4 := Tryd.underlying4
  a4 := Tryd.isAgg4
  z4 := Tryd.sizeOf4
  v4 := Tryd.zeroValue4
  t9 := Tryd.underlying9
  a9 := Tryd.isAgg9
  z9 := Tryd.sizeOf9
  v9 := Tryd.zeroValue9
  t20 := Tryd.underlying20
  a20 := Tryd.isAgg20
  z20 := Tryd.sizeOf20
  v20 := Tryd.zeroValue20
  t31 := Tryd.underlying83
  a31 := Tryd.isAgg83
  z31 := Tryd.sizeOf83
  v31 := Tryd.zeroValue83
  t37 := Tryd.underlying82
  a37 := Tryd.isAgg82
  z37 := Tryd.sizeOf82
  v37 := Tryd.zeroValue82
  t70 := Tryd.underlying97
  a70 := Tryd.isAgg97
  z70 := Tryd.sizeOf97
  v70 := Tryd.zeroValue97
  t72 := Tryd.underlying99
  a72 := Tryd.isAgg99
  z72 := Tryd.sizeOf99
  v72 := Tryd.zeroValue99
  t75 := Tryd.underlying102
  a75 := Tryd.isAgg102
  z75 := Tryd.sizeOf102
  v75 := Tryd.zeroValue102
  t76 := Tryd.underlying103
  a76 := Tryd.isAgg103
  z76 := Tryd.sizeOf103
  v76 := Tryd.zeroValue103
  t127 := Tryd.underlying119
  a127 := Tryd.isAgg119
  z127 := Tryd.sizeOf119
  v127 := Tryd.zeroValue119
  t164 := Tryd.underlying129
  a164 := Tryd.isAgg129
  z164 := Tryd.sizeOf129
  v164 := Tryd.zeroValue129 }
theorem Tryd.joinX : Builder.Extra Tryd.prog Tryd.joinL_ren := {
  sizeBuilder := by kernel_rfl
  liesBuilder := by kernel_rfl
  t5 := Tryd.underlying5
  a5 := Tryd.isAgg5
  z5 := Tryd.sizeOf5
  v5 := Tryd.zeroValue5
  infoByte := by kernel_rfl
  cellsByte := by kernel_rfl
  sizeByte := by kernel_rfl
  neB5 := by decide }
end Go.Proofs
set_option maxRecDepth 8000
namespace Go.AM
namespace Door
open Go.Proofs
def MM : FuncId → List Bool := fun _ => []
theorem pushB_one (x : Int) : pushB [x] = ⟨[UInt8.ofNat x.toNat].toArray⟩ := rfl
theorem iwithin (x lo hi : Int) : SpecAt Tryd.prog 66 [.i64 x, .i64 lo, .i64 hi] (.bl (within x lo hi)) := by
  refine spec_of_awp (M := MM) (np := 3) (fz := true) mixed Tryd.func66 rfl rfl (by decide) rfl (Nat.le_refl _) (by decide +kernel) (.inr ⟨rfl, rfl⟩) trivial ?_
  simp -dsimp -implicitDefEqProofs (disch := first | omega | (simp only [lenr]; done) | (simp only [lenr]; omega)) only [↓amPre, amAll, ↓reduceIte, reduceCtorEq, Nat.reduceEqDiff, Nat.reduceBEq, Nat.reduceAdd, Nat.reduceLeDiff, Nat.reduceSub, Nat.reduceMul, Int.reduceToNat, List.size_toArray, tyF, MM, bu0, ipure, kpure, tpure, sspure, kset, tset, ksnoc, tsnoc, Kind.av, Twist.sl, Twist.tr, Invar.av, stsize, stget, sttl, stapp, stext, tsspure, Model.sl, Model.tr, sttl, stapp, stsize, pushB_one]
  refine ifP_mk ?_ ?_ <;> intro h1
  · simp -dsimp -implicitDefEqProofs (disch := first | omega | (simp only [lenr]; done) | (simp only [lenr]; omega)) only [↓amPre, amAll, ↓reduceIte, reduceCtorEq, Nat.reduceEqDiff, Nat.reduceBEq, Nat.reduceAdd, Nat.reduceLeDiff, Nat.reduceSub, Nat.reduceMul, Int.reduceToNat, List.size_toArray, tyF, MM, bu0, ipure, kpure, tpure, sspure, kset, tset, ksnoc, tsnoc, Kind.av, Twist.sl, Twist.tr, Invar.av, stsize, stget, sttl, stapp, stext, tsspure, Model.sl, Model.tr, sttl, stapp, stsize, pushB_one, h1]
    simp [within, h1]
  · simp -dsimp -implicitDefEqProofs (disch := first | omega | (simp only [lenr]; done) | (simp only [lenr]; omega)) only [↓amPre, amAll, ↓reduceIte, reduceCtorEq, Nat.reduceEqDiff, Nat.reduceBEq, Nat.reduceAdd, Nat.reduceLeDiff, Nat.reduceSub, Nat.reduceMul, Int.reduceToNat, List.size_toArray, tyF, MM, bu0, ipure, kpure, tpure, sspure, kset, tset, ksnoc, tsnoc, Kind.av, Twist.sl, Twist.tr, Invar.av, stsize, stget, sttl, stapp, stext, tsspure, Model.sl, Model.tr, sttl, stapp, stsize, pushB_one, h1]
    simp [within, h1]
def twoD (n : Nat) : List UInt8 := Lib.decDigits (n / 10) ++ Lib.decDigits (n % 10)
end Door
end Go.AM
set_option maxRecDepth 8000
namespace Go.AM
namespace Door
open Go.Proofs
/-- the last k digits -/
def sL (n : Nat) : Nat → List UInt8
  | 0 => []
  | k + 1 => UInt8.ofNat (48 + n / 10 ^ k % 10) :: sL n k
theorem sL0 (n : Nat) : sL n 0 = [] := rfl
theorem sLs (n k : Nat) : sL n (k + 1) = UInt8.ofNat (48 + n / 10 ^ k % 10) :: sL n k := rfl
theorem sL_len (n : Nat) : ∀ k, (sL n k).length = k
  | 0 => rfl
  | k + 1 => by rw [sLs, List.length_cons, sL_len n k]
theorem pow_div (n k : Nat) : n / 10 ^ (k + 1) = n / 10 ^ k / 10 := by rw [Nat.pow_succ, Nat.div_div_eq_div_mul]
theorem dd_step (m : Nat) (s : List UInt8) : Lib.decDigits m ++ s = (if m / 10 = 0 then [] else Lib.decDigits (m / 10)) ++ (UInt8.ofNat (48 + m % 10) :: s) := by
  by_cases h : m < 10
  · have : m / 10 = 0 := by omega
    have e : m % 10 = m := by omega
    rw [if_pos this, Lib.decDigits_one h, e]; rfl
  · have : ¬ m / 10 = 0 := by omega
    rw [if_neg this]
    conv => lhs; rw [Lib.decDigits, dif_neg h]
    simp
theorem formatInt_spec (n : Nat) (hn : n ≤ 9223372036854775807) : SpecAt Tryd.prog 26 [.i64 n] (AV.st (Lib.decDigits n)) := by
  have hlt : n < 10 ^ 19 := by omega
  refine spec_of_awp (M := MM) (np := 1) (fz := true) mixed Tryd.func26 rfl rfl (by decide) rfl (Nat.le_refl _) (by decide +kernel) (.inr ⟨rfl, rfl⟩) trivial ?_
  simp -dsimp -implicitDefEqProofs (disch := first | omega | (simp only [lenr]; done) | (simp only [lenr]; omega)) only [↓amPre, amAll, ↓reduceIte, reduceCtorEq, Nat.reduceEqDiff, Nat.reduceBEq, Nat.reduceAdd, Nat.reduceLeDiff, Nat.reduceSub, Nat.reduceMul, Int.reduceToNat, List.size_toArray, tyF, MM, bu0, ipure, kpure, tpure, sspure, kset, tset, ksnoc, tsnoc, Kind.av, Twist.sl, Twist.tr, Invar.av, stsize, stget, sttl, stapp, stext, tsspure, Model.sl, Model.tr, sttl, stapp, stsize, pushB_one, sL0]
  refine awp_loop (fun k st => k ≤ 20 ∧ st.fr 0 = .i64 ((n / 10 ^ k : Nat) : Int) ∧ st.fr 3 = AV.st (sL n k) ∧ st.fr 4 = .bl false ∧ (Lib.decDigits n = (if k ≠ 0 ∧ n / 10 ^ k = 0 then [] else Lib.decDigits (n / 10 ^ k)) ++ sL n k)) (20) ?_ ?_
  · simp -dsimp -implicitDefEqProofs (disch := first | omega | (simp only [lenr]; done) | (simp only [lenr]; omega)) only [↓amPre, amAll, ↓reduceIte, reduceCtorEq, Nat.reduceEqDiff, Nat.reduceBEq, Nat.reduceAdd, Nat.reduceLeDiff, Nat.reduceSub, Nat.reduceMul, Int.reduceToNat, List.size_toArray, tyF, MM, bu0, ipure, kpure, tpure, sspure, kset, tset, ksnoc, tsnoc, Kind.av, Twist.sl, Twist.tr, Invar.av, stsize, stget, sttl, stapp, stext, tsspure, Model.sl, Model.tr, sttl, stapp, stsize, pushB_one, sL0]
    simp [sL]
  rintro k st _ ⟨hk, f0, f3, f4, ek⟩
  have hd := sL_len n k
  have hle : n / 10 ^ k ≤ n := Nat.div_le_self _ _
  by_cases hc : k ≠ 0 ∧ n / 10 ^ k = 0
  · have h0 : ¬ k = 0 := hc.1
    rw [if_pos hc, List.nil_append] at ek
    have hne : (sL n k == []) = false := by rw [← hd] at h0; cases he : sL n k with | nil => rw [he] at h0; exact (h0 rfl).elim | cons a r => rfl
    have hz : bne (((n / 10 ^ k : Nat) : Int)) 0 = false := by rw [hc.2]; rfl
    have hl21 := hd
    simp -dsimp -implicitDefEqProofs (disch := first | omega | (simp only [lenr]; done) | (simp only [lenr]; omega)) only [↓amPre, amAll, ↓reduceIte, reduceCtorEq, Nat.reduceEqDiff, Nat.reduceBEq, Nat.reduceAdd, Nat.reduceLeDiff, Nat.reduceSub, Nat.reduceMul, Int.reduceToNat, List.size_toArray, tyF, MM, bu0, ipure, kpure, tpure, sspure, kset, tset, ksnoc, tsnoc, Kind.av, Twist.sl, Twist.tr, Invar.av, stsize, stget, sttl, stapp, stext, tsspure, Model.sl, Model.tr, sttl, stapp, stsize, pushB_one, sL0, f0, f3, f4, hz, hne, ek]
    skip
  · rw [if_neg hc] at ek
    have hk' : k < 19 := by
      apply Classical.byContradiction
      intro q
      have : n / 10 ^ k = 0 := by
        apply Nat.div_eq_of_lt
        calc n < 10 ^ 19 := hlt
          _ ≤ 10 ^ k := Nat.pow_le_pow_right (by omega) (by omega)
      exact hc ⟨by omega, this⟩
    have hnn : (([] : List UInt8) == []) = true := rfl
    have fin : Lib.decDigits n = (if k + 1 ≠ 0 ∧ n / 10 ^ (k + 1) = 0 then [] else Lib.decDigits (n / 10 ^ (k + 1))) ++ sL n (k + 1) := by
      rw [ek, sLs, pow_div, dd_step]
      by_cases hq : n / 10 ^ k / 10 = 0
      · rw [if_pos hq, if_pos ⟨by omega, hq⟩]
      · rw [if_neg hq, if_neg (fun q => hq q.2)]
    have hs1 : sL n (k + 1) = UInt8.ofNat (48 + n / 10 ^ k % 10) :: sL n k := sLs n k
    have hm' := pow_div n k
    clear ek
    generalize hm : n / 10 ^ k = m at *
    generalize hM : n / 10 ^ (k + 1) = m' at *
    generalize hS : sL n k = S at *
    generalize hS' : sL n (k + 1) = S' at *
    have e1 : ((m : Int)).tdiv 10 = (m' : Int) := by rw [hm']; rfl
    have e2 : ((m : Int)).tmod 10 = ((m % 10 : Nat) : Int) := rfl
    have ew : IntKind.u8.wrap ((48 : Int) + ((m % 10 : Nat) : Int)) = ((48 + m % 10 : Nat) : Int) := by rw [IntWalk.u8_in _ (by omega)]; omega
    have e3 : ((48 + m % 10 : Nat) : Int).toNat = 48 + m % 10 := by omega
    by_cases h0 : k = 0
    · have hSn : S = [] := by rw [h0] at hd; exact List.eq_nil_of_length_eq_zero hd
      subst hSn
      simp -dsimp -implicitDefEqProofs (disch := first | omega | (simp only [lenr]; done) | (simp only [lenr]; omega)) only [↓amPre, amAll, ↓reduceIte, reduceCtorEq, Nat.reduceEqDiff, Nat.reduceBEq, Nat.reduceAdd, Nat.reduceLeDiff, Nat.reduceSub, Nat.reduceMul, Int.reduceToNat, List.size_toArray, tyF, MM, bu0, ipure, kpure, tpure, sspure, kset, tset, ksnoc, tsnoc, Kind.av, Twist.sl, Twist.tr, Invar.av, stsize, stget, sttl, stapp, stext, tsspure, Model.sl, Model.tr, sttl, stapp, stsize, pushB_one, sL0, f0, f3, f4, e1, e2, ew, e3, hnn]
      refine ⟨by omega, by omega, ?_, fin⟩
      rw [hs1]
    · have hne : (S == []) = false := by rw [← hd] at h0; cases S with | nil => exact (h0 rfl).elim | cons a r => rfl
      have hz : bne (m : Int) 0 = true := by
        have : ¬ m = 0 := fun q => hc ⟨h0, q⟩
        simp; omega
      simp -dsimp -implicitDefEqProofs (disch := first | omega | (simp only [lenr]; done) | (simp only [lenr]; omega)) only [↓amPre, amAll, ↓reduceIte, reduceCtorEq, Nat.reduceEqDiff, Nat.reduceBEq, Nat.reduceAdd, Nat.reduceLeDiff, Nat.reduceSub, Nat.reduceMul, Int.reduceToNat, List.size_toArray, tyF, MM, bu0, ipure, kpure, tpure, sspure, kset, tset, ksnoc, tsnoc, Kind.av, Twist.sl, Twist.tr, Invar.av, stsize, stget, sttl, stapp, stext, tsspure, Model.sl, Model.tr, sttl, stapp, stsize, pushB_one, sL0, f0, f3, f4, e1, e2, ew, e3, hne, hz]
      refine ⟨by omega, by omega, ?_, fin⟩
      rw [hs1]
def timeT (n : Nat) : List UInt8 :=
  if n < 6000 then Lib.decDigits (n / 100) ++ [46] ++ twoD (n % 100)
  else Lib.decDigits (n / 6000) ++ [58] ++ twoD (n % 6000 / 100) ++ [46] ++ twoD (n % 100)
def fmtT (x : Int) : List UInt8 := if x = -1 then [68, 78, 70] else if within x 0 360000 = true then timeT x.toNat else []
end Door
end Go.AM
set_option maxRecDepth 8000
namespace Go.AM
namespace Door
open Go.Proofs
def wtr (xs : List (List UInt8)) : AV := .tr 1 (xs.map AV.st)
theorem stset (xs : List (List UInt8)) (i : Nat) (x : List UInt8) : (xs.map AV.st).set i (.st x) = (xs.set i x).map AV.st := by rw [List.map_set]
theorem stfz (xs : List (List UInt8)) : (xs.map AV.st).map AV.fz = xs.map AV.st := map_fz _ _ _ fun _ => fz_v _
theorem joinS (xs : List (List UInt8)) (sep : List UInt8) (hN : xs.length ≤ 1099511627776) (hl : (Lib.join xs sep).length ≤ 140737488355328) : SpecAt Tryd.prog 55 [.sl 1 (xs.map AV.st), .st sep] (.st (Lib.join xs sep)) :=
  spec_join (f := 55) ⟨_, _, Tryd.func55, rfl, by decide⟩ (fun bk o c xs sep w h1 h2 h3 h4 h5 => Any.strings_Join Tryd.joinL Tryd.joinX bk o c xs sep w h1 h2 h3 h4 h5) (fun a c sep w => Any.strings_Join_none Tryd.joinL Tryd.joinX a c sep w) xs sep hN hl
theorem pow10_row {I : Gh} {w : World} (h : Held I w) : ∃ t f, w.heap[0]? = some (.cells (Lib.pow10Tab.map fun z => Value.int .u64 z).toArray t f) := by
  obtain ⟨t, f, x, h1, _⟩ := h.base 0 _ (List.mem_singleton.2 rfl)
  exact ⟨t, f, h1⟩
theorem fmtInt_gen (n : Int) (hn : intOk n) : SpecAt Tryd.prog 54 [.i64 n, .i64 10] (AV.st (Lib.itoa n)) :=
  spec_static (f := 54) ⟨_, _, Tryd.func54, rfl, by decide⟩ [.int .i64 n, .int .i64 10] (.string ⟨(Lib.itoa n).toArray⟩) fun I w hI => by
    obtain ⟨t, f, h1⟩ := pow10_row hI
    exact Any.strconv_FormatInt_10 Tryd.fmtL n hn.1 hn.2 w (tab_of (by kernel_rfl) h1)
theorem decimal_spec (n : Int) (hn : intOk n) : SpecAt Tryd.prog 30 [.i64 n] (AV.st (Lib.itoa n)) := by
  refine spec_of_awp (M := MM) (np := 1) (fz := true) mixed Tryd.func30 rfl rfl (by decide) rfl (Nat.le_refl _) (by decide +kernel) (.inr ⟨rfl, rfl⟩) trivial ?_
  simp -dsimp -implicitDefEqProofs (disch := first | omega | (simp only [lenr]; done) | (simp only [lenr]; omega)) only [↓amPre, amAll, ↓reduceIte, reduceCtorEq, Nat.reduceEqDiff, Nat.reduceBEq, Nat.reduceAdd, Nat.reduceLeDiff, Nat.reduceSub, Nat.reduceMul, Int.reduceToNat, List.size_toArray, tyF, MM, bu0, ipure, kpure, tpure, sspure, kset, tset, ksnoc, tsnoc, Kind.av, Twist.sl, Twist.tr, Invar.av, stsize, stget, sttl, stapp, stext, tsspure, Model.sl, Model.tr, vset, vsnoc, vpure, Puzz.sl, Puzz.tr, sttl, stapp, stsize, pushB_one, sL0, stset, stfz]
  refine callP_of (fmtInt_gen n hn) ?_
  simp -dsimp -implicitDefEqProofs (disch := first | omega | (simp only [lenr]; done) | (simp only [lenr]; omega)) only [↓amPre, amAll, ↓reduceIte, reduceCtorEq, Nat.reduceEqDiff, Nat.reduceBEq, Nat.reduceAdd, Nat.reduceLeDiff, Nat.reduceSub, Nat.reduceMul, Int.reduceToNat, List.size_toArray, tyF, MM, bu0, ipure, kpure, tpure, sspure, kset, tset, ksnoc, tsnoc, Kind.av, Twist.sl, Twist.tr, Invar.av, stsize, stget, sttl, stapp, stext, tsspure, Model.sl, Model.tr, vset, vsnoc, vpure, Puzz.sl, Puzz.tr, sttl, stapp, stsize, pushB_one, sL0, stset, stfz]
theorem joinNumbers (l : List Int) (hl : l.length ≤ 1048576) (hi : ∀ x ∈ l, intOk x) : SpecAt Tryd.prog 31 [isl l, .st [32]] (.st (jn l)) := by
  refine spec_of_awp (M := MM) (np := 2) (fz := true) mixed Tryd.func31 rfl rfl (by decide) rfl (Nat.le_refl _) (by decide +kernel) (.inr ⟨rfl, rfl⟩) trivial ?_
  simp -dsimp -implicitDefEqProofs (disch := first | omega | (simp only [lenr]; done) | (simp only [lenr]; omega)) only [↓amPre, amAll, ↓reduceIte, reduceCtorEq, Nat.reduceEqDiff, Nat.reduceBEq, Nat.reduceAdd, Nat.reduceLeDiff, Nat.reduceSub, Nat.reduceMul, Int.reduceToNat, List.size_toArray, tyF, MM, bu0, ipure, kpure, tpure, sspure, kset, tset, ksnoc, tsnoc, Kind.av, Twist.sl, Twist.tr, Invar.av, stsize, stget, sttl, stapp, stext, tsspure, Model.sl, Model.tr, vset, vsnoc, vpure, Puzz.sl, Puzz.tr, sttl, stapp, stsize, pushB_one, sL0, stset, stfz]
  refine awp_loop (fun j st => j ≤ l.length ∧ st.fr 13 = .i64 j ∧ st.fr 11 = isl l ∧ st.fr 12 = .i64 l.length ∧ st.fr 5 = .ref 10 [] 1 0 l.length ∧ st.fr 1 = .st [32] ∧ st.mem 10 = some (wtr (mixL (l.map Lib.itoa) (List.replicate l.length []) j))) (l.length) ?_ ?_
  · simp -dsimp -implicitDefEqProofs (disch := first | omega | (simp only [lenr]; done) | (simp only [lenr]; omega)) only [↓amPre, amAll, ↓reduceIte, reduceCtorEq, Nat.reduceEqDiff, Nat.reduceBEq, Nat.reduceAdd, Nat.reduceLeDiff, Nat.reduceSub, Nat.reduceMul, Int.reduceToNat, List.size_toArray, tyF, MM, bu0, ipure, kpure, tpure, sspure, kset, tset, ksnoc, tsnoc, Kind.av, Twist.sl, Twist.tr, Invar.av, stsize, stget, sttl, stapp, stext, tsspure, Model.sl, Model.tr, vset, vsnoc, vpure, Puzz.sl, Puzz.tr, sttl, stapp, stsize, pushB_one, sL0, stset, stfz, mixL_zero]
    simp [wtr]
  rintro j st _ ⟨hj, f13, f11, f12, f5, f1, m10⟩
  have hr : (l.map Lib.itoa).length = (List.replicate l.length ([] : List UInt8)).length := by simp
  have hm := mixL_len (l.map Lib.itoa) (List.replicate l.length []) j hr
  have hrl : (List.replicate l.length ([] : List UInt8)).length = l.length := by simp
  by_cases hlt : j < l.length
  · have hs := mixL_set (l.map Lib.itoa) (List.replicate l.length []) j [] hr (by omega)
    have hg : (l.map Lib.itoa).getD j [] = Lib.itoa (l.getD j 0) := by simp [List.getD, hlt]
    rw [hg] at hs
    have hx : intOk (l.getD j 0) := by rw [getD_eq _ _ _ hlt]; exact hi _ (List.getElem_mem hlt)
    simp -dsimp -implicitDefEqProofs (disch := first | omega | (simp only [lenr]; done) | (simp only [lenr]; omega)) only [↓amPre, amAll, ↓reduceIte, reduceCtorEq, Nat.reduceEqDiff, Nat.reduceBEq, Nat.reduceAdd, Nat.reduceLeDiff, Nat.reduceSub, Nat.reduceMul, Int.reduceToNat, List.size_toArray, tyF, MM, bu0, ipure, kpure, tpure, sspure, kset, tset, ksnoc, tsnoc, Kind.av, Twist.sl, Twist.tr, Invar.av, stsize, stget, sttl, stapp, stext, tsspure, Model.sl, Model.tr, vset, vsnoc, vpure, Puzz.sl, Puzz.tr, sttl, stapp, stsize, pushB_one, sL0, stset, stfz, f13, f11, f12, f5, f1, m10, hm, hrl]
    refine callP_of (decimal_spec _ hx) ?_
    simp -dsimp -implicitDefEqProofs (disch := first | omega | (simp only [lenr]; done) | (simp only [lenr]; omega)) only [↓amPre, amAll, ↓reduceIte, reduceCtorEq, Nat.reduceEqDiff, Nat.reduceBEq, Nat.reduceAdd, Nat.reduceLeDiff, Nat.reduceSub, Nat.reduceMul, Int.reduceToNat, List.size_toArray, tyF, MM, bu0, ipure, kpure, tpure, sspure, kset, tset, ksnoc, tsnoc, Kind.av, Twist.sl, Twist.tr, Invar.av, stsize, stget, sttl, stapp, stext, tsspure, Model.sl, Model.tr, vset, vsnoc, vpure, Puzz.sl, Puzz.tr, sttl, stapp, stsize, pushB_one, sL0, stset, stfz, f13, f11, f12, f5, f1, m10, hm, hrl, wtr, stset, hs]
    repeat' (first | omega | rfl | exact i64c (by omega) | exact vic (by omega) | apply And.intro)
  · have hj' : j = l.length := by omega
    subst hj'
    have := mixL_all (l.map Lib.itoa) (List.replicate l.length []) l.length (by simp) (by simp)
    have hjl := jn_len l hi
    have hN : (l.map Lib.itoa).length ≤ 1099511627776 := by simp; omega
    have hJ := joinS (l.map Lib.itoa) [32] hN (by unfold jn at hjl; omega)
    simp -dsimp -implicitDefEqProofs (disch := first | omega | (simp only [lenr]; done) | (simp only [lenr]; omega)) only [↓amPre, amAll, ↓reduceIte, reduceCtorEq, Nat.reduceEqDiff, Nat.reduceBEq, Nat.reduceAdd, Nat.reduceLeDiff, Nat.reduceSub, Nat.reduceMul, Int.reduceToNat, List.size_toArray, tyF, MM, bu0, ipure, kpure, tpure, sspure, kset, tset, ksnoc, tsnoc, Kind.av, Twist.sl, Twist.tr, Invar.av, stsize, stget, sttl, stapp, stext, tsspure, Model.sl, Model.tr, vset, vsnoc, vpure, Puzz.sl, Puzz.tr, sttl, stapp, stsize, pushB_one, sL0, stset, stfz, f13, f11, f12, f5, f1, m10, hm, hrl, this, wtr]
    refine callP_of (hJ) ?_
    simp -dsimp -implicitDefEqProofs (disch := first | omega | (simp only [lenr]; done) | (simp only [lenr]; omega)) only [↓amPre, amAll, ↓reduceIte, reduceCtorEq, Nat.reduceEqDiff, Nat.reduceBEq, Nat.reduceAdd, Nat.reduceLeDiff, Nat.reduceSub, Nat.reduceMul, Int.reduceToNat, List.size_toArray, tyF, MM, bu0, ipure, kpure, tpure, sspure, kset, tset, ksnoc, tsnoc, Kind.av, Twist.sl, Twist.tr, Invar.av, stsize, stget, sttl, stapp, stext, tsspure, Model.sl, Model.tr, vset, vsnoc, vpure, Puzz.sl, Puzz.tr, sttl, stapp, stsize, pushB_one, sL0, stset, stfz, f13, f11, f12, f5, f1, m10, this]
    rfl
theorem joinText (xs : List (List UInt8)) (sep : List UInt8) (hN : xs.length ≤ 1048576) (hb : ∀ x ∈ xs, x.length ≤ 21) (hs : sep.length ≤ 1) : SpecAt Tryd.prog 50 [.sl 1 (xs.map AV.st), .st sep] (.st (Lib.join xs sep)) := by
  have jl : ∀ k, (Lib.join (xs.take k) sep).length ≤ 23068672 := fun k => by
    have h1 := join_len (xs.take k) sep 21 fun x hx => hb x (List.mem_of_mem_take hx)
    have h2 : (xs.take k).length ≤ 1048576 := by rw [List.length_take]; omega
    calc _ ≤ (21 + sep.length) * (xs.take k).length := h1
      _ ≤ 22 * 1048576 := Nat.mul_le_mul (by omega) h2
  refine spec_of_awp (M := MM) (np := 2) (fz := true) mixed Tryd.func50 rfl rfl (by decide) rfl (Nat.le_refl _) (by decide +kernel) (.inr ⟨rfl, rfl⟩) trivial ?_
  simp -dsimp -implicitDefEqProofs (disch := first | omega | (simp only [lenr]; done) | (simp only [lenr]; omega)) only [↓amPre, amAll, ↓reduceIte, reduceCtorEq, Nat.reduceEqDiff, Nat.reduceBEq, Nat.reduceAdd, Nat.reduceLeDiff, Nat.reduceSub, Nat.reduceMul, Int.reduceToNat, List.size_toArray, tyF, MM, bu0, ipure, kpure, tpure, sspure, kset, tset, ksnoc, tsnoc, Kind.av, Twist.sl, Twist.tr, Invar.av, stsize, stget, sttl, stapp, stext, tsspure, Model.sl, Model.tr, vset, vsnoc, vpure, Puzz.sl, Puzz.tr, sttl, stapp, stsize, pushB_one, sL0, stset, stfz]
  refine awp_loop (fun k st => k ≤ xs.length ∧ st.fr 6 = .i64 k ∧ st.fr 0 = .sl 1 (xs.map AV.st) ∧ st.fr 1 = .st sep ∧ st.fr 5 = .st (Lib.join (xs.take k) sep)) (xs.length) ?_ ?_
  · simp -dsimp -implicitDefEqProofs (disch := first | omega | (simp only [lenr]; done) | (simp only [lenr]; omega)) only [↓amPre, amAll, ↓reduceIte, reduceCtorEq, Nat.reduceEqDiff, Nat.reduceBEq, Nat.reduceAdd, Nat.reduceLeDiff, Nat.reduceSub, Nat.reduceMul, Int.reduceToNat, List.size_toArray, tyF, MM, bu0, ipure, kpure, tpure, sspure, kset, tset, ksnoc, tsnoc, Kind.av, Twist.sl, Twist.tr, Invar.av, stsize, stget, sttl, stapp, stext, tsspure, Model.sl, Model.tr, vset, vsnoc, vpure, Puzz.sl, Puzz.tr, sttl, stapp, stsize, pushB_one, sL0, stset, stfz]
    simp [Lib.join_nil]
  rintro k st _ ⟨hk, f6, f0, f1, f5⟩
  have j1 := jl k
  by_cases hlt : k < xs.length
  · have e := join_take xs sep k hlt
    have hg : (xs.map AV.st).getD k .any = .st (xs.getD k []) := by simp [List.getD, hlt]
    have hgl : (xs.getD k []).length ≤ 21 := by rw [getD_eq _ _ _ hlt]; exact hb _ (List.getElem_mem hlt)
    by_cases hk : k = 0
    · subst hk
      rw [if_pos rfl, List.append_nil] at e
      simp -dsimp -implicitDefEqProofs (disch := first | omega | (simp only [lenr]; done) | (simp only [lenr]; omega)) only [↓amPre, amAll, ↓reduceIte, reduceCtorEq, Nat.reduceEqDiff, Nat.reduceBEq, Nat.reduceAdd, Nat.reduceLeDiff, Nat.reduceSub, Nat.reduceMul, Int.reduceToNat, List.size_toArray, tyF, MM, bu0, ipure, kpure, tpure, sspure, kset, tset, ksnoc, tsnoc, Kind.av, Twist.sl, Twist.tr, Invar.av, stsize, stget, sttl, stapp, stext, tsspure, Model.sl, Model.tr, vset, vsnoc, vpure, Puzz.sl, Puzz.tr, sttl, stapp, stsize, pushB_one, sL0, stset, stfz, f6, f0, f1, f5, hg, Lib.join_nil]
      refine ⟨by omega, by omega, ?_⟩
      rw [e]
      simp [Lib.join_nil]
    · rw [if_neg hk] at e
      have hk' : (0 : Int) < k := by omega
      simp -dsimp -implicitDefEqProofs (disch := first | omega | (simp only [lenr]; done) | (simp only [lenr]; omega)) only [↓amPre, amAll, ↓reduceIte, reduceCtorEq, Nat.reduceEqDiff, Nat.reduceBEq, Nat.reduceAdd, Nat.reduceLeDiff, Nat.reduceSub, Nat.reduceMul, Int.reduceToNat, List.size_toArray, tyF, MM, bu0, ipure, kpure, tpure, sspure, kset, tset, ksnoc, tsnoc, Kind.av, Twist.sl, Twist.tr, Invar.av, stsize, stget, sttl, stapp, stext, tsspure, Model.sl, Model.tr, vset, vsnoc, vpure, Puzz.sl, Puzz.tr, sttl, stapp, stsize, pushB_one, sL0, stset, stfz, f6, f0, f1, f5, hg, lt_true hk']
      refine ⟨by omega, by omega, ?_⟩
      rw [e]
  · have hk : k = xs.length := by omega
    subst hk
    simp -dsimp -implicitDefEqProofs (disch := first | omega | (simp only [lenr]; done) | (simp only [lenr]; omega)) only [↓amPre, amAll, ↓reduceIte, reduceCtorEq, Nat.reduceEqDiff, Nat.reduceBEq, Nat.reduceAdd, Nat.reduceLeDiff, Nat.reduceSub, Nat.reduceMul, Int.reduceToNat, List.size_toArray, tyF, MM, bu0, ipure, kpure, tpure, sspure, kset, tset, ksnoc, tsnoc, Kind.av, Twist.sl, Twist.tr, Invar.av, stsize, stget, sttl, stapp, stext, tsspure, Model.sl, Model.tr, vset, vsnoc, vpure, Puzz.sl, Puzz.tr, sttl, stapp, stsize, pushB_one, sL0, stset, stfz, f6, f0, f1, f5, List.take_length]
theorem stsnoc (xs : List (List UInt8)) (x : List UInt8) : xs.map AV.st ++ [AV.st x] = (xs ++ [x]).map AV.st := by simp
theorem formatInt_pos (n : Int) (h0 : 0 ≤ n) (hn : intOk n) : SpecAt Tryd.prog 26 [.i64 n] (AV.st (Lib.itoa n)) := by
  obtain ⟨m, rfl⟩ : ∃ m : Nat, n = m := ⟨n.toNat, by omega⟩
  unfold intOk at hn
  have := formatInt_spec m (by omega)
  rw [Lib.itoa, if_neg (by omega)]
  exact this
theorem formatInts (l : List Int) (hl : l.length ≤ 1048576) (hi : ∀ x ∈ l, intOk x) (hp : ∀ x ∈ l, 0 ≤ x) : SpecAt Tryd.prog 27 [isl l] (.st (jn l)) := by
  refine spec_of_awp (M := MM) (np := 1) (fz := true) mixed Tryd.func27 rfl rfl (by decide) rfl (Nat.le_refl _) (by decide +kernel) (.inr ⟨rfl, rfl⟩) trivial ?_
  simp -dsimp -implicitDefEqProofs (disch := first | omega | (simp only [lenr]; done) | (simp only [lenr]; omega)) only [↓amPre, amAll, ↓reduceIte, reduceCtorEq, Nat.reduceEqDiff, Nat.reduceBEq, Nat.reduceAdd, Nat.reduceLeDiff, Nat.reduceSub, Nat.reduceMul, Int.reduceToNat, List.size_toArray, tyF, MM, bu0, ipure, kpure, tpure, sspure, kset, tset, ksnoc, tsnoc, Kind.av, Twist.sl, Twist.tr, Invar.av, stsize, stget, sttl, stapp, stext, tsspure, Model.sl, Model.tr, vset, vsnoc, vpure, Puzz.sl, Puzz.tr, sttl, stapp, stsize, pushB_one, sL0, stset, stfz]
  refine awp_loop (fun k st => k ≤ l.length ∧ st.fr 4 = .i64 k ∧ st.fr 0 = isl l ∧ ((k = 0 ∧ st.fr 3 = .ref 5 [] 1 0 0 ∧ st.mem 5 = some (.tr 1 [])) ∨ (0 < k ∧ st.fr 3 = .ref 19 [] 1 0 k ∧ st.mem 19 = some (wtr ((l.map Lib.itoa).take k))))) (l.length) ?_ ?_
  · simp -dsimp -implicitDefEqProofs (disch := first | omega | (simp only [lenr]; done) | (simp only [lenr]; omega)) only [↓amPre, amAll, ↓reduceIte, reduceCtorEq, Nat.reduceEqDiff, Nat.reduceBEq, Nat.reduceAdd, Nat.reduceLeDiff, Nat.reduceSub, Nat.reduceMul, Int.reduceToNat, List.size_toArray, tyF, MM, bu0, ipure, kpure, tpure, sspure, kset, tset, ksnoc, tsnoc, Kind.av, Twist.sl, Twist.tr, Invar.av, stsize, stget, sttl, stapp, stext, tsspure, Model.sl, Model.tr, vset, vsnoc, vpure, Puzz.sl, Puzz.tr, sttl, stapp, stsize, pushB_one, sL0, stset, stfz]
    exact ⟨by omega, rfl⟩
  rintro k st _ ⟨hk, f4, f0, ek⟩
  have hml : (l.map Lib.itoa).length = l.length := by simp
  have htl : ((l.map Lib.itoa).take k).length = k := by rw [List.length_take]; omega
  by_cases hlt : k < l.length
  · have hx : intOk (l.getD k 0) ∧ 0 ≤ l.getD k 0 := by rw [getD_eq _ _ _ hlt]; exact ⟨hi _ (List.getElem_mem hlt), hp _ (List.getElem_mem hlt)⟩
    have hs := take_succ_eq (l.map Lib.itoa) k [] (by omega)
    have hg : (l.map Lib.itoa).getD k [] = Lib.itoa (l.getD k 0) := by simp [List.getD, hlt]
    rw [hg] at hs
    rcases ek with ⟨rfl, f3, m5⟩ | ⟨hk0, f3, m19⟩
    · simp -dsimp -implicitDefEqProofs (disch := first | omega | (simp only [lenr]; done) | (simp only [lenr]; omega)) only [↓amPre, amAll, ↓reduceIte, reduceCtorEq, Nat.reduceEqDiff, Nat.reduceBEq, Nat.reduceAdd, Nat.reduceLeDiff, Nat.reduceSub, Nat.reduceMul, Int.reduceToNat, List.size_toArray, tyF, MM, bu0, ipure, kpure, tpure, sspure, kset, tset, ksnoc, tsnoc, Kind.av, Twist.sl, Twist.tr, Invar.av, stsize, stget, sttl, stapp, stext, tsspure, Model.sl, Model.tr, vset, vsnoc, vpure, Puzz.sl, Puzz.tr, sttl, stapp, stsize, pushB_one, sL0, stset, stfz, f4, f0, f3, m5]
      refine callP_of (formatInt_pos _ hx.2 hx.1) ?_
      simp -dsimp -implicitDefEqProofs (disch := first | omega | (simp only [lenr]; done) | (simp only [lenr]; omega)) only [↓amPre, amAll, ↓reduceIte, reduceCtorEq, Nat.reduceEqDiff, Nat.reduceBEq, Nat.reduceAdd, Nat.reduceLeDiff, Nat.reduceSub, Nat.reduceMul, Int.reduceToNat, List.size_toArray, tyF, MM, bu0, ipure, kpure, tpure, sspure, kset, tset, ksnoc, tsnoc, Kind.av, Twist.sl, Twist.tr, Invar.av, stsize, stget, sttl, stapp, stext, tsspure, Model.sl, Model.tr, vset, vsnoc, vpure, Puzz.sl, Puzz.tr, sttl, stapp, stsize, pushB_one, sL0, stset, stfz, f4, f0, f3, m5]
      have : (l.map Lib.itoa).take 1 = [Lib.itoa (l.getD 0 0)] := by rw [hs]; simp
      refine ⟨by omega, by omega, by omega, ?_⟩
      rw [this]; rfl
    · simp -dsimp -implicitDefEqProofs (disch := first | omega | (simp only [lenr]; done) | (simp only [lenr]; omega)) only [↓amPre, amAll, ↓reduceIte, reduceCtorEq, Nat.reduceEqDiff, Nat.reduceBEq, Nat.reduceAdd, Nat.reduceLeDiff, Nat.reduceSub, Nat.reduceMul, Int.reduceToNat, List.size_toArray, tyF, MM, bu0, ipure, kpure, tpure, sspure, kset, tset, ksnoc, tsnoc, Kind.av, Twist.sl, Twist.tr, Invar.av, stsize, stget, sttl, stapp, stext, tsspure, Model.sl, Model.tr, vset, vsnoc, vpure, Puzz.sl, Puzz.tr, sttl, stapp, stsize, pushB_one, sL0, stset, stfz, f4, f0, f3, m19, wtr, htl]
      refine callP_of (formatInt_pos _ hx.2 hx.1) ?_
      simp -dsimp -implicitDefEqProofs (disch := first | omega | (simp only [lenr]; done) | (simp only [lenr]; omega)) only [↓amPre, amAll, ↓reduceIte, reduceCtorEq, Nat.reduceEqDiff, Nat.reduceBEq, Nat.reduceAdd, Nat.reduceLeDiff, Nat.reduceSub, Nat.reduceMul, Int.reduceToNat, List.size_toArray, tyF, MM, bu0, ipure, kpure, tpure, sspure, kset, tset, ksnoc, tsnoc, Kind.av, Twist.sl, Twist.tr, Invar.av, stsize, stget, sttl, stapp, stext, tsspure, Model.sl, Model.tr, vset, vsnoc, vpure, Puzz.sl, Puzz.tr, sttl, stapp, stsize, pushB_one, sL0, stset, stfz, f4, f0, f3, m19, wtr, htl, stsnoc]
      refine ⟨by omega, by omega, by omega, ?_⟩
      rw [hs]
  · have hk : k = l.length := by omega
    subst hk
    have hT : (l.map Lib.itoa).take l.length = l.map Lib.itoa := List.take_of_length_le (by simp)
    rcases ek with ⟨h0, f3, m5⟩ | ⟨hk0, f3, m19⟩
    · have hl0 : l = [] := List.eq_nil_of_length_eq_zero h0
      subst hl0
      have hJ := joinText [] [32] (by simp) (fun x hx => by cases hx) (by simp)
      simp -dsimp -implicitDefEqProofs (disch := first | omega | (simp only [lenr]; done) | (simp only [lenr]; omega)) only [↓amPre, amAll, ↓reduceIte, reduceCtorEq, Nat.reduceEqDiff, Nat.reduceBEq, Nat.reduceAdd, Nat.reduceLeDiff, Nat.reduceSub, Nat.reduceMul, Int.reduceToNat, List.size_toArray, tyF, MM, bu0, ipure, kpure, tpure, sspure, kset, tset, ksnoc, tsnoc, Kind.av, Twist.sl, Twist.tr, Invar.av, stsize, stget, sttl, stapp, stext, tsspure, Model.sl, Model.tr, vset, vsnoc, vpure, Puzz.sl, Puzz.tr, sttl, stapp, stsize, pushB_one, sL0, stset, stfz, f4, f0, f3, m5]
      refine callP_of (hJ) ?_
      simp -dsimp -implicitDefEqProofs (disch := first | omega | (simp only [lenr]; done) | (simp only [lenr]; omega)) only [↓amPre, amAll, ↓reduceIte, reduceCtorEq, Nat.reduceEqDiff, Nat.reduceBEq, Nat.reduceAdd, Nat.reduceLeDiff, Nat.reduceSub, Nat.reduceMul, Int.reduceToNat, List.size_toArray, tyF, MM, bu0, ipure, kpure, tpure, sspure, kset, tset, ksnoc, tsnoc, Kind.av, Twist.sl, Twist.tr, Invar.av, stsize, stget, sttl, stapp, stext, tsspure, Model.sl, Model.tr, vset, vsnoc, vpure, Puzz.sl, Puzz.tr, sttl, stapp, stsize, pushB_one, sL0, stset, stfz, f4, f0]
      rfl
    · have hJ := joinText (l.map Lib.itoa) [32] (by simp; omega) (fun x hx => by
        obtain ⟨y, hy, rfl⟩ := List.mem_map.1 hx
        exact itoa_len (hi y hy)) (by simp)
      simp -dsimp -implicitDefEqProofs (disch := first | omega | (simp only [lenr]; done) | (simp only [lenr]; omega)) only [↓amPre, amAll, ↓reduceIte, reduceCtorEq, Nat.reduceEqDiff, Nat.reduceBEq, Nat.reduceAdd, Nat.reduceLeDiff, Nat.reduceSub, Nat.reduceMul, Int.reduceToNat, List.size_toArray, tyF, MM, bu0, ipure, kpure, tpure, sspure, kset, tset, ksnoc, tsnoc, Kind.av, Twist.sl, Twist.tr, Invar.av, stsize, stget, sttl, stapp, stext, tsspure, Model.sl, Model.tr, vset, vsnoc, vpure, Puzz.sl, Puzz.tr, sttl, stapp, stsize, pushB_one, sL0, stset, stfz, f4, f0, f3, m19, wtr, hT, hml]
      refine callP_of (hJ) ?_
      simp -dsimp -implicitDefEqProofs (disch := first | omega | (simp only [lenr]; done) | (simp only [lenr]; omega)) only [↓amPre, amAll, ↓reduceIte, reduceCtorEq, Nat.reduceEqDiff, Nat.reduceBEq, Nat.reduceAdd, Nat.reduceLeDiff, Nat.reduceSub, Nat.reduceMul, Int.reduceToNat, List.size_toArray, tyF, MM, bu0, ipure, kpure, tpure, sspure, kset, tset, ksnoc, tsnoc, Kind.av, Twist.sl, Twist.tr, Invar.av, stsize, stget, sttl, stapp, stext, tsspure, Model.sl, Model.tr, vset, vsnoc, vpure, Puzz.sl, Puzz.tr, sttl, stapp, stsize, pushB_one, sL0, stset, stfz, f4, f0, hT]
      rfl
end Door
end Go.AM
set_option maxRecDepth 8000
namespace Go.AM
open Go.Proofs
theorem kOk_of {k : Kind} (w1 : within k.c 1 20 = true) (w2 : within k.o 1 20 = true) : kOk k := ⟨within_iff.1 w1, within_iff.1 w2⟩
def fcI (l : List Kind) : Int := if ∀ k ∈ l, kOk k then facets l else 21
theorem ifaceletCount (l : List Kind) (hl : l.length ≤ 3) : SpecAt Tryd.prog 76 [ksl l] (.i64 (fcI l)) := by
  refine spec_of_awp (M := MM) (np := 1) (fz := true) mixed Tryd.func76 rfl rfl (by decide) rfl (Nat.le_refl _) (by decide +kernel) (.inr ⟨rfl, rfl⟩) trivial ?_
  simp -dsimp -implicitDefEqProofs (disch := first | omega | (simp only [lenr]; done) | (simp only [lenr]; omega)) only [↓amPre, amAll, ↓reduceIte, reduceCtorEq, Nat.reduceEqDiff, Nat.reduceBEq, Nat.reduceAdd, Nat.reduceLeDiff, Nat.reduceSub, Nat.reduceMul, Int.reduceToNat, List.size_toArray, tyF, MM, bu0, ipure, kpure, tpure, sspure, kset, tset, ksnoc, tsnoc, Kind.av, Twist.sl, Twist.tr, Invar.av]
  refine awp_loop (fun k st => k ≤ l.length ∧ st.fr 8 = .i64 k ∧ st.fr 7 = .i64 l.length ∧ st.fr 6 = ksl l ∧ st.fr 3 = .i64 (facets (l.take k)) ∧ ∀ x ∈ l.take k, kOk x) (l.length) ?_ ?_
  · simp -dsimp -implicitDefEqProofs (disch := first | omega | (simp only [lenr]; done) | (simp only [lenr]; omega)) only [↓amPre, amAll, ↓reduceIte, reduceCtorEq, Nat.reduceEqDiff, Nat.reduceBEq, Nat.reduceAdd, Nat.reduceLeDiff, Nat.reduceSub, Nat.reduceMul, Int.reduceToNat, List.size_toArray, tyF, MM, bu0, ipure, kpure, tpure, sspure, kset, tset, ksnoc, tsnoc, Kind.av, Twist.sl, Twist.tr, Invar.av]
    simp [facets]
  rintro k st _ ⟨hk, f8, f7, f6, f3, ek⟩
  by_cases hlt : k < l.length
  · have hmem := mem_getD l k default hlt
    have hb := facets_bound (l.take k) ek
    rw [List.length_take, Nat.min_eq_left (by omega)] at hb
    have ft := facets_take l k hlt
    simp -dsimp -implicitDefEqProofs (disch := first | omega | (simp only [lenr]; done) | (simp only [lenr]; omega)) only [↓amPre, amAll, ↓reduceIte, reduceCtorEq, Nat.reduceEqDiff, Nat.reduceBEq, Nat.reduceAdd, Nat.reduceLeDiff, Nat.reduceSub, Nat.reduceMul, Int.reduceToNat, List.size_toArray, tyF, MM, bu0, ipure, kpure, tpure, sspure, kset, tset, ksnoc, tsnoc, Kind.av, Twist.sl, Twist.tr, Invar.av, f8, f7, f6, f3]
    refine callP_of (iwithin _ _ _) ?_
    cases w1 : within (l.getD k default).c 1 20 with
    | false =>
      simp -dsimp -implicitDefEqProofs (disch := first | omega | (simp only [lenr]; done) | (simp only [lenr]; omega)) only [↓amPre, amAll, ↓reduceIte, reduceCtorEq, Nat.reduceEqDiff, Nat.reduceBEq, Nat.reduceAdd, Nat.reduceLeDiff, Nat.reduceSub, Nat.reduceMul, Int.reduceToNat, List.size_toArray, tyF, MM, bu0, ipure, kpure, tpure, sspure, kset, tset, ksnoc, tsnoc, Kind.av, Twist.sl, Twist.tr, Invar.av, w1]
      rw [fcI, if_neg]
      intro h; have := within_iff.2 (h _ hmem).1; rw [w1] at this; cases this
    | true =>
    simp -dsimp -implicitDefEqProofs (disch := first | omega | (simp only [lenr]; done) | (simp only [lenr]; omega)) only [↓amPre, amAll, ↓reduceIte, reduceCtorEq, Nat.reduceEqDiff, Nat.reduceBEq, Nat.reduceAdd, Nat.reduceLeDiff, Nat.reduceSub, Nat.reduceMul, Int.reduceToNat, List.size_toArray, tyF, MM, bu0, ipure, kpure, tpure, sspure, kset, tset, ksnoc, tsnoc, Kind.av, Twist.sl, Twist.tr, Invar.av, w1]
    refine callP_of (iwithin _ _ _) ?_
    cases w2 : within (l.getD k default).o 1 20 with
    | false =>
      simp -dsimp -implicitDefEqProofs (disch := first | omega | (simp only [lenr]; done) | (simp only [lenr]; omega)) only [↓amPre, amAll, ↓reduceIte, reduceCtorEq, Nat.reduceEqDiff, Nat.reduceBEq, Nat.reduceAdd, Nat.reduceLeDiff, Nat.reduceSub, Nat.reduceMul, Int.reduceToNat, List.size_toArray, tyF, MM, bu0, ipure, kpure, tpure, sspure, kset, tset, ksnoc, tsnoc, Kind.av, Twist.sl, Twist.tr, Invar.av, w1, w2]
      rw [fcI, if_neg]
      intro h; have := within_iff.2 (h _ hmem).2; rw [w2] at this; cases this
    | true =>
    have hk := kOk_of w1 w2
    have hp := kOk_prod hk
    simp -dsimp -implicitDefEqProofs (disch := first | omega | (simp only [lenr]; done) | (simp only [lenr]; omega)) only [↓amPre, amAll, ↓reduceIte, reduceCtorEq, Nat.reduceEqDiff, Nat.reduceBEq, Nat.reduceAdd, Nat.reduceLeDiff, Nat.reduceSub, Nat.reduceMul, Int.reduceToNat, List.size_toArray, tyF, MM, bu0, ipure, kpure, tpure, sspure, kset, tset, ksnoc, tsnoc, Kind.av, Twist.sl, Twist.tr, Invar.av, w1, w2, f8, f7, f6, f3, ← ft]
    repeat' (first | omega | rfl | exact i64c (by omega) | exact vic (by omega) | exact (mem_take_succ (d := default) hlt).2 ⟨ek, hk⟩ | apply And.intro)
  · have hke : k = l.length := by omega
    subst hke
    simp -dsimp -implicitDefEqProofs (disch := first | omega | (simp only [lenr]; done) | (simp only [lenr]; omega)) only [↓amPre, amAll, ↓reduceIte, reduceCtorEq, Nat.reduceEqDiff, Nat.reduceBEq, Nat.reduceAdd, Nat.reduceLeDiff, Nat.reduceSub, Nat.reduceMul, Int.reduceToNat, List.size_toArray, tyF, MM, bu0, ipure, kpure, tpure, sspure, kset, tset, ksnoc, tsnoc, Kind.av, Twist.sl, Twist.tr, Invar.av, f8, f7, f6, f3, List.take_length]
    rw [List.take_length] at ek
    rw [fcI, if_pos ek]
theorem iAreValidKinds (l : List Kind) (hl : l.length ≤ 1099511627776) : SpecAt Tryd.prog 59 [ksl l] (.bl (decide (kindsOk l))) := by
  refine spec_of_awp (M := MM) (np := 1) (fz := true) mixed Tryd.func59 rfl rfl (by decide) rfl (Nat.le_refl _) (by decide +kernel) (.inr ⟨rfl, rfl⟩) trivial ?_
  simp -dsimp -implicitDefEqProofs (disch := first | omega | (simp only [lenr]; done) | (simp only [lenr]; omega)) only [↓amPre, amAll, ↓reduceIte, reduceCtorEq, Nat.reduceEqDiff, Nat.reduceBEq, Nat.reduceAdd, Nat.reduceLeDiff, Nat.reduceSub, Nat.reduceMul, Int.reduceToNat, List.size_toArray, tyF, MM, bu0, ipure, kpure, tpure, sspure, kset, tset, ksnoc, tsnoc, Kind.av, Twist.sl, Twist.tr, Invar.av]
  refine callP_of (lenK _) ?_
  simp -dsimp -implicitDefEqProofs (disch := first | omega | (simp only [lenr]; done) | (simp only [lenr]; omega)) only [↓amPre, amAll, ↓reduceIte, reduceCtorEq, Nat.reduceEqDiff, Nat.reduceBEq, Nat.reduceAdd, Nat.reduceLeDiff, Nat.reduceSub, Nat.reduceMul, Int.reduceToNat, List.size_toArray, tyF, MM, bu0, ipure, kpure, tpure, sspure, kset, tset, ksnoc, tsnoc, Kind.av, Twist.sl, Twist.tr, Invar.av]
  refine callP_of (iwithin _ _ _) ?_
  cases w : within l.length 1 3 with
  | false =>
    simp -dsimp -implicitDefEqProofs (disch := first | omega | (simp only [lenr]; done) | (simp only [lenr]; omega)) only [↓amPre, amAll, ↓reduceIte, reduceCtorEq, Nat.reduceEqDiff, Nat.reduceBEq, Nat.reduceAdd, Nat.reduceLeDiff, Nat.reduceSub, Nat.reduceMul, Int.reduceToNat, List.size_toArray, tyF, MM, bu0, ipure, kpure, tpure, sspure, kset, tset, ksnoc, tsnoc, Kind.av, Twist.sl, Twist.tr, Invar.av, w]
    rw [within_not] at w
    have : ¬ kindsOk l := fun h => by have := h.1; omega
    simp [this]
  | true =>
  have w' := within_iff.1 w
  simp -dsimp -implicitDefEqProofs (disch := first | omega | (simp only [lenr]; done) | (simp only [lenr]; omega)) only [↓amPre, amAll, ↓reduceIte, reduceCtorEq, Nat.reduceEqDiff, Nat.reduceBEq, Nat.reduceAdd, Nat.reduceLeDiff, Nat.reduceSub, Nat.reduceMul, Int.reduceToNat, List.size_toArray, tyF, MM, bu0, ipure, kpure, tpure, sspure, kset, tset, ksnoc, tsnoc, Kind.av, Twist.sl, Twist.tr, Invar.av, w]
  refine callP_of (ifaceletCount _ (by omega)) ?_
  simp -dsimp -implicitDefEqProofs (disch := first | omega | (simp only [lenr]; done) | (simp only [lenr]; omega)) only [↓amPre, amAll, ↓reduceIte, reduceCtorEq, Nat.reduceEqDiff, Nat.reduceBEq, Nat.reduceAdd, Nat.reduceLeDiff, Nat.reduceSub, Nat.reduceMul, Int.reduceToNat, List.size_toArray, tyF, MM, bu0, ipure, kpure, tpure, sspure, kset, tset, ksnoc, tsnoc, Kind.av, Twist.sl, Twist.tr, Invar.av, w]
  refine bl_eq ?_
  simp only [decide_eq_true_eq]
  unfold fcI kindsOk
  split
  · rename_i h; exact ⟨fun q => ⟨by omega, h, q⟩, fun q => q.2.2⟩
  · rename_i h; exact ⟨fun q => by omega, fun q => (h q.2.1).elim⟩
theorem sAreValidKinds (l : List Kind) (hl : l.length ≤ 1099511627776) : SpecAt Tryd.prog 57 [ksl l] (.bl (decide (kindsOk l))) := by
  refine spec_of_awp (M := MM) (np := 1) (fz := true) mixed Tryd.func57 rfl rfl (by decide) rfl (Nat.le_refl _) (by decide +kernel) (.inr ⟨rfl, rfl⟩) trivial ?_
  simp -dsimp -implicitDefEqProofs (disch := first | omega | (simp only [lenr]; done) | (simp only [lenr]; omega)) only [↓amPre, amAll, ↓reduceIte, reduceCtorEq, Nat.reduceEqDiff, Nat.reduceBEq, Nat.reduceAdd, Nat.reduceLeDiff, Nat.reduceSub, Nat.reduceMul, Int.reduceToNat, List.size_toArray, tyF, MM, bu0, ipure, kpure, tpure, sspure, kset, tset, ksnoc, tsnoc, Kind.av, Twist.sl, Twist.tr, Invar.av]
  refine callP_of (inRange _ _ _) ?_
  cases w : within l.length 1 3 with
  | false =>
    simp -dsimp -implicitDefEqProofs (disch := first | omega | (simp only [lenr]; done) | (simp only [lenr]; omega)) only [↓amPre, amAll, ↓reduceIte, reduceCtorEq, Nat.reduceEqDiff, Nat.reduceBEq, Nat.reduceAdd, Nat.reduceLeDiff, Nat.reduceSub, Nat.reduceMul, Int.reduceToNat, List.size_toArray, tyF, MM, bu0, ipure, kpure, tpure, sspure, kset, tset, ksnoc, tsnoc, Kind.av, Twist.sl, Twist.tr, Invar.av, w]
    rw [within_not] at w
    have : ¬ kindsOk l := fun h => by have := h.1; omega
    simp [this]
  | true =>
  have w' := within_iff.1 w
  simp -dsimp -implicitDefEqProofs (disch := first | omega | (simp only [lenr]; done) | (simp only [lenr]; omega)) only [↓amPre, amAll, ↓reduceIte, reduceCtorEq, Nat.reduceEqDiff, Nat.reduceBEq, Nat.reduceAdd, Nat.reduceLeDiff, Nat.reduceSub, Nat.reduceMul, Int.reduceToNat, List.size_toArray, tyF, MM, bu0, ipure, kpure, tpure, sspure, kset, tset, ksnoc, tsnoc, Kind.av, Twist.sl, Twist.tr, Invar.av, w]
  refine awp_loop (fun k st => k ≤ l.length ∧ st.fr 4 = .i64 k ∧ st.fr 0 = ksl l ∧ st.fr 3 = .i64 (facets (l.take k)) ∧ ∀ x ∈ l.take k, kOk x) (l.length) ?_ ?_
  · simp -dsimp -implicitDefEqProofs (disch := first | omega | (simp only [lenr]; done) | (simp only [lenr]; omega)) only [↓amPre, amAll, ↓reduceIte, reduceCtorEq, Nat.reduceEqDiff, Nat.reduceBEq, Nat.reduceAdd, Nat.reduceLeDiff, Nat.reduceSub, Nat.reduceMul, Int.reduceToNat, List.size_toArray, tyF, MM, bu0, ipure, kpure, tpure, sspure, kset, tset, ksnoc, tsnoc, Kind.av, Twist.sl, Twist.tr, Invar.av]
    simp [facets]
  rintro k st _ ⟨hk, f4, f0, f3, ek⟩
  by_cases hlt : k < l.length
  · have hmem := mem_getD l k default hlt
    have hb := facets_bound (l.take k) ek
    rw [List.length_take, Nat.min_eq_left (by omega)] at hb
    have ft := facets_take l k hlt
    simp -dsimp -implicitDefEqProofs (disch := first | omega | (simp only [lenr]; done) | (simp only [lenr]; omega)) only [↓amPre, amAll, ↓reduceIte, reduceCtorEq, Nat.reduceEqDiff, Nat.reduceBEq, Nat.reduceAdd, Nat.reduceLeDiff, Nat.reduceSub, Nat.reduceMul, Int.reduceToNat, List.size_toArray, tyF, MM, bu0, ipure, kpure, tpure, sspure, kset, tset, ksnoc, tsnoc, Kind.av, Twist.sl, Twist.tr, Invar.av, f4, f0, f3]
    refine callP_of (inRange _ _ _) ?_
    cases w1 : within (l.getD k default).c 1 20 with
    | false =>
      simp -dsimp -implicitDefEqProofs (disch := first | omega | (simp only [lenr]; done) | (simp only [lenr]; omega)) only [↓amPre, amAll, ↓reduceIte, reduceCtorEq, Nat.reduceEqDiff, Nat.reduceBEq, Nat.reduceAdd, Nat.reduceLeDiff, Nat.reduceSub, Nat.reduceMul, Int.reduceToNat, List.size_toArray, tyF, MM, bu0, ipure, kpure, tpure, sspure, kset, tset, ksnoc, tsnoc, Kind.av, Twist.sl, Twist.tr, Invar.av, w1]
      have : ¬ kindsOk l := fun h => by have := within_iff.2 (h.2.1 _ hmem).1; rw [w1] at this; cases this
      simp [this]
    | true =>
    simp -dsimp -implicitDefEqProofs (disch := first | omega | (simp only [lenr]; done) | (simp only [lenr]; omega)) only [↓amPre, amAll, ↓reduceIte, reduceCtorEq, Nat.reduceEqDiff, Nat.reduceBEq, Nat.reduceAdd, Nat.reduceLeDiff, Nat.reduceSub, Nat.reduceMul, Int.reduceToNat, List.size_toArray, tyF, MM, bu0, ipure, kpure, tpure, sspure, kset, tset, ksnoc, tsnoc, Kind.av, Twist.sl, Twist.tr, Invar.av, w1, f4, f0, f3]
    refine callP_of (inRange _ _ _) ?_
    cases w2 : within (l.getD k default).o 1 20 with
    | false =>
      simp -dsimp -implicitDefEqProofs (disch := first | omega | (simp only [lenr]; done) | (simp only [lenr]; omega)) only [↓amPre, amAll, ↓reduceIte, reduceCtorEq, Nat.reduceEqDiff, Nat.reduceBEq, Nat.reduceAdd, Nat.reduceLeDiff, Nat.reduceSub, Nat.reduceMul, Int.reduceToNat, List.size_toArray, tyF, MM, bu0, ipure, kpure, tpure, sspure, kset, tset, ksnoc, tsnoc, Kind.av, Twist.sl, Twist.tr, Invar.av, w1, w2]
      have : ¬ kindsOk l := fun h => by have := within_iff.2 (h.2.1 _ hmem).2; rw [w2] at this; cases this
      simp [this]
    | true =>
    have hk := kOk_of w1 w2
    have hp := kOk_prod hk
    simp -dsimp -implicitDefEqProofs (disch := first | omega | (simp only [lenr]; done) | (simp only [lenr]; omega)) only [↓amPre, amAll, ↓reduceIte, reduceCtorEq, Nat.reduceEqDiff, Nat.reduceBEq, Nat.reduceAdd, Nat.reduceLeDiff, Nat.reduceSub, Nat.reduceMul, Int.reduceToNat, List.size_toArray, tyF, MM, bu0, ipure, kpure, tpure, sspure, kset, tset, ksnoc, tsnoc, Kind.av, Twist.sl, Twist.tr, Invar.av, w1, w2, f4, f0, f3, ← ft]
    repeat' (first | omega | rfl | exact i64c (by omega) | exact vic (by omega) | exact (mem_take_succ (d := default) hlt).2 ⟨ek, hk⟩ | apply And.intro)
  · have hke : k = l.length := by omega
    subst hke
    simp -dsimp -implicitDefEqProofs (disch := first | omega | (simp only [lenr]; done) | (simp only [lenr]; omega)) only [↓amPre, amAll, ↓reduceIte, reduceCtorEq, Nat.reduceEqDiff, Nat.reduceBEq, Nat.reduceAdd, Nat.reduceLeDiff, Nat.reduceSub, Nat.reduceMul, Int.reduceToNat, List.size_toArray, tyF, MM, bu0, ipure, kpure, tpure, sspure, kset, tset, ksnoc, tsnoc, Kind.av, Twist.sl, Twist.tr, Invar.av, f4, f0, f3, List.take_length]
    rw [List.take_length] at ek
    refine bl_eq ?_
    simp only [decide_eq_true_eq]
    unfold kindsOk
    exact ⟨fun q => ⟨by omega, ek, q⟩, fun q => q.2.2⟩
def stR (l : List Kind) : Int := if kindsOk l then stC l else 0
end Go.AM
set_option maxRecDepth 8000
namespace Go.AM
open Go.Proofs
def fidx (pr : Int → Bool) (l : List Int) : Int := match l.findIdx? pr with | some i => i | none => -1
theorem fidx_nonneg (pr : Int → Bool) (l : List Int) : 0 ≤ fidx pr l ↔ l.any pr = true := by
  unfold fidx
  split
  · rename_i i e
    rw [List.findIdx?_eq_some_iff_getElem] at e
    obtain ⟨hi, h1, _⟩ := e
    simp only [List.any_eq_true]
    exact ⟨fun _ => ⟨_, List.getElem_mem hi, h1⟩, fun _ => by omega⟩
  · rename_i e
    rw [List.findIdx?_eq_none_iff] at e
    simp only [List.any_eq_true]
    exact ⟨fun q => by omega, fun ⟨x, hx, hp⟩ => by rw [e x hx] at hp; cases hp⟩
theorem indexFunc (l : List Int) (g : FuncId) (caps : List AV) (pr : Int → Bool) (hM : MM g = []) (hb : AV.bearsL caps = false) (hv : ∀ mem, AV.views mem caps = caps) (h : ∀ x ∈ l, SpecAt Tryd.prog g ([.i64 x] ++ caps) (.bl (pr x))) (hl : l.length ≤ 1099511627776) :
    SpecAt Tryd.prog 88 [isl l, .fn g caps] (.i64 (fidx pr l)) := by
  unfold MM at hM
  refine spec_of_awp (M := MM) (np := 2) (fz := true) mixed Tryd.func88 rfl rfl (by decide) rfl (Nat.le_refl _) (by decide +kernel) (.inr ⟨rfl, rfl⟩) trivial ?_
  simp -dsimp -implicitDefEqProofs (disch := first | omega | (simp only [lenr]; done) | (simp only [lenr]; omega)) only [↓amPre, amAll, ↓reduceIte, reduceCtorEq, Nat.reduceEqDiff, Nat.reduceBEq, Nat.reduceAdd, Nat.reduceLeDiff, Nat.reduceSub, Nat.reduceMul, Int.reduceToNat, List.size_toArray, tyF, MM, bu0, ipure, kpure, tpure, sspure, kset, tset, ksnoc, tsnoc, Kind.av, Twist.sl, Twist.tr, Invar.av]
  refine awp_loop (fun k st => k ≤ l.length ∧ st.fr 8 = .i64 k ∧ st.fr 7 = .i64 l.length ∧ st.fr 0 = isl l ∧ st.fr 1 = .fn g caps ∧ ∀ x ∈ l.take k, pr x = false) (l.length) ?_ ?_
  · simp -dsimp -implicitDefEqProofs (disch := first | omega | (simp only [lenr]; done) | (simp only [lenr]; omega)) only [↓amPre, amAll, ↓reduceIte, reduceCtorEq, Nat.reduceEqDiff, Nat.reduceBEq, Nat.reduceAdd, Nat.reduceLeDiff, Nat.reduceSub, Nat.reduceMul, Int.reduceToNat, List.size_toArray, tyF, MM, bu0, ipure, kpure, tpure, sspure, kset, tset, ksnoc, tsnoc, Kind.av, Twist.sl, Twist.tr, Invar.av]
    simp
  rintro k st _ ⟨hk, f8, f7, f0, f1, ek⟩
  by_cases hlt : k < l.length
  · have hmem := mem_getD l k 0 hlt
    simp -dsimp -implicitDefEqProofs (disch := first | omega | (simp only [lenr]; done) | (simp only [lenr]; omega)) only [↓amPre, amAll, ↓reduceIte, reduceCtorEq, Nat.reduceEqDiff, Nat.reduceBEq, Nat.reduceAdd, Nat.reduceLeDiff, Nat.reduceSub, Nat.reduceMul, Int.reduceToNat, List.size_toArray, tyF, MM, bu0, ipure, kpure, tpure, sspure, kset, tset, ksnoc, tsnoc, Kind.av, Twist.sl, Twist.tr, Invar.av, f8, f7, f0, f1, hM, hb, hv]
    refine callP_of (h _ hmem) ?_
    cases w : pr (l.getD k 0) with
    | true =>
      simp -dsimp -implicitDefEqProofs (disch := first | omega | (simp only [lenr]; done) | (simp only [lenr]; omega)) only [↓amPre, amAll, ↓reduceIte, reduceCtorEq, Nat.reduceEqDiff, Nat.reduceBEq, Nat.reduceAdd, Nat.reduceLeDiff, Nat.reduceSub, Nat.reduceMul, Int.reduceToNat, List.size_toArray, tyF, MM, bu0, ipure, kpure, tpure, sspure, kset, tset, ksnoc, tsnoc, Kind.av, Twist.sl, Twist.tr, Invar.av, f8, f7, f0, f1, w]
      have : l.findIdx? pr = some k := by
        rw [List.findIdx?_eq_some_iff_getElem]
        refine ⟨hlt, by rw [← getD_eq l k 0 hlt]; exact w, fun j hj => ?_⟩
        have := ek (l[j]) (by rw [List.mem_take_iff_getElem]; exact ⟨j, by omega, rfl⟩)
        simpa using this
      rw [fidx, this]
    | false =>
      simp -dsimp -implicitDefEqProofs (disch := first | omega | (simp only [lenr]; done) | (simp only [lenr]; omega)) only [↓amPre, amAll, ↓reduceIte, reduceCtorEq, Nat.reduceEqDiff, Nat.reduceBEq, Nat.reduceAdd, Nat.reduceLeDiff, Nat.reduceSub, Nat.reduceMul, Int.reduceToNat, List.size_toArray, tyF, MM, bu0, ipure, kpure, tpure, sspure, kset, tset, ksnoc, tsnoc, Kind.av, Twist.sl, Twist.tr, Invar.av, f8, f7, f0, f1, w]
      repeat' (first | omega | rfl | exact i64c (by omega) | exact vic (by omega) | exact (mem_take_succ (d := 0) hlt).2 ⟨ek, w⟩ | apply And.intro)
  · have hke : k = l.length := by omega
    subst hke
    rw [List.take_length] at ek
    simp -dsimp -implicitDefEqProofs (disch := first | omega | (simp only [lenr]; done) | (simp only [lenr]; omega)) only [↓amPre, amAll, ↓reduceIte, reduceCtorEq, Nat.reduceEqDiff, Nat.reduceBEq, Nat.reduceAdd, Nat.reduceLeDiff, Nat.reduceSub, Nat.reduceMul, Int.reduceToNat, List.size_toArray, tyF, MM, bu0, ipure, kpure, tpure, sspure, kset, tset, ksnoc, tsnoc, Kind.av, Twist.sl, Twist.tr, Invar.av, f8, f7, f0, f1]
    have : l.findIdx? pr = none := by rw [List.findIdx?_eq_none_iff]; exact ek
    rw [fidx, this]
theorem containsFunc (l : List Int) (g : FuncId) (caps : List AV) (pr : Int → Bool) (hM : MM g = []) (hb : AV.bearsL caps = false) (hv : ∀ mem, AV.views mem caps = caps) (h : ∀ x ∈ l, SpecAt Tryd.prog g ([.i64 x] ++ caps) (.bl (pr x))) (hl : l.length ≤ 1099511627776) :
    SpecAt Tryd.prog 77 [isl l, .fn g caps] (.bl (l.any pr)) := by
  refine spec_of_awp (M := MM) (np := 2) (fz := true) mixed Tryd.func77 rfl rfl (by decide) rfl (Nat.le_refl _) (by decide +kernel) (.inr ⟨rfl, rfl⟩) trivial ?_
  simp -dsimp -implicitDefEqProofs (disch := first | omega | (simp only [lenr]; done) | (simp only [lenr]; omega)) only [↓amPre, amAll, ↓reduceIte, reduceCtorEq, Nat.reduceEqDiff, Nat.reduceBEq, Nat.reduceAdd, Nat.reduceLeDiff, Nat.reduceSub, Nat.reduceMul, Int.reduceToNat, List.size_toArray, tyF, MM, bu0, ipure, kpure, tpure, sspure, kset, tset, ksnoc, tsnoc, Kind.av, Twist.sl, Twist.tr, Invar.av, hb, hv]
  refine callP_of (indexFunc l g caps pr hM hb hv h hl) ?_
  simp -dsimp -implicitDefEqProofs (disch := first | omega | (simp only [lenr]; done) | (simp only [lenr]; omega)) only [↓amPre, amAll, ↓reduceIte, reduceCtorEq, Nat.reduceEqDiff, Nat.reduceBEq, Nat.reduceAdd, Nat.reduceLeDiff, Nat.reduceSub, Nat.reduceMul, Int.reduceToNat, List.size_toArray, tyF, MM, bu0, ipure, kpure, tpure, sspure, kset, tset, ksnoc, tsnoc, Kind.av, Twist.sl, Twist.tr, Invar.av]
  refine bl_eq ?_
  simp only [decide_eq_true_eq, fidx_nonneg]
theorem isTwist1 (x c o : Int) (ho : 0 ≤ o) (ho1 : o ≤ 20) : SpecAt Tryd.prog 78 [.i64 x, .ep [.i64 c, .i64 o]] (.bl (!within x 0 (o - 1))) := by
  refine spec_of_awp (M := MM) (np := 2) (fz := true) mixed Tryd.func78 rfl rfl (by decide) rfl (Nat.le_refl _) (by decide +kernel) (.inr ⟨rfl, rfl⟩) trivial ?_
  simp -dsimp -implicitDefEqProofs (disch := first | omega | (simp only [lenr]; done) | (simp only [lenr]; omega)) only [↓amPre, amAll, ↓reduceIte, reduceCtorEq, Nat.reduceEqDiff, Nat.reduceBEq, Nat.reduceAdd, Nat.reduceLeDiff, Nat.reduceSub, Nat.reduceMul, Int.reduceToNat, List.size_toArray, tyF, MM, bu0, ipure, kpure, tpure, sspure, kset, tset, ksnoc, tsnoc, Kind.av, Twist.sl, Twist.tr, Invar.av]
  refine callP_of (iwithin _ _ _) ?_
  simp -dsimp -implicitDefEqProofs (disch := first | omega | (simp only [lenr]; done) | (simp only [lenr]; omega)) only [↓amPre, amAll, ↓reduceIte, reduceCtorEq, Nat.reduceEqDiff, Nat.reduceBEq, Nat.reduceAdd, Nat.reduceLeDiff, Nat.reduceSub, Nat.reduceMul, Int.reduceToNat, List.size_toArray, tyF, MM, bu0, ipure, kpure, tpure, sspure, kset, tset, ksnoc, tsnoc, Kind.av, Twist.sl, Twist.tr, Invar.av]
theorem isTwist (k : Kind) (t : Twist) (hk : kOk k) (h1 : t.to.length ≤ 1099511627776) (h2 : t.by'.length ≤ 1099511627776) : SpecAt Tryd.prog 60 [k.av, t.sl] (.bl (decide (twOk k t))) := by
  refine spec_of_awp (M := MM) (np := 2) (fz := true) mixed Tryd.func60 rfl rfl (by decide) rfl (Nat.le_refl _) (by decide +kernel) (.inr ⟨rfl, rfl⟩) trivial ?_
  simp -dsimp -implicitDefEqProofs (disch := first | omega | (simp only [lenr]; done) | (simp only [lenr]; omega)) only [↓amPre, amAll, ↓reduceIte, reduceCtorEq, Nat.reduceEqDiff, Nat.reduceBEq, Nat.reduceAdd, Nat.reduceLeDiff, Nat.reduceSub, Nat.reduceMul, Int.reduceToNat, List.size_toArray, tyF, MM, bu0, ipure, kpure, tpure, sspure, kset, tset, ksnoc, tsnoc, Kind.av, Twist.sl, Twist.tr, Invar.av]
  refine callP_of (lenI _) ?_
  have fin : ∀ b : Bool, (b = true ↔ twOk k t) → Value.bool b = Value.bool (decide (twOk k t)) := fun b h => bl_eq (by rw [h, decide_eq_true_iff])
  by_cases c1 : (t.to.length : Int) = k.c
  · simp -dsimp -implicitDefEqProofs (disch := first | omega | (simp only [lenr]; done) | (simp only [lenr]; omega)) only [↓amPre, amAll, ↓reduceIte, reduceCtorEq, Nat.reduceEqDiff, Nat.reduceBEq, Nat.reduceAdd, Nat.reduceLeDiff, Nat.reduceSub, Nat.reduceMul, Int.reduceToNat, List.size_toArray, tyF, MM, bu0, ipure, kpure, tpure, sspure, kset, tset, ksnoc, tsnoc, Kind.av, Twist.sl, Twist.tr, Invar.av, eq_true c1]
    refine callP_of (iIsPerm _ h1) ?_
    by_cases c2 : isPerm t.to
    · simp -dsimp -implicitDefEqProofs (disch := first | omega | (simp only [lenr]; done) | (simp only [lenr]; omega)) only [↓amPre, amAll, ↓reduceIte, reduceCtorEq, Nat.reduceEqDiff, Nat.reduceBEq, Nat.reduceAdd, Nat.reduceLeDiff, Nat.reduceSub, Nat.reduceMul, Int.reduceToNat, List.size_toArray, tyF, MM, bu0, ipure, kpure, tpure, sspure, kset, tset, ksnoc, tsnoc, Kind.av, Twist.sl, Twist.tr, Invar.av, eq_true c1, c2]
      refine callP_of (lenI _) ?_
      by_cases c3 : (t.by'.length : Int) = k.c
      · simp -dsimp -implicitDefEqProofs (disch := first | omega | (simp only [lenr]; done) | (simp only [lenr]; omega)) only [↓amPre, amAll, ↓reduceIte, reduceCtorEq, Nat.reduceEqDiff, Nat.reduceBEq, Nat.reduceAdd, Nat.reduceLeDiff, Nat.reduceSub, Nat.reduceMul, Int.reduceToNat, List.size_toArray, tyF, MM, bu0, ipure, kpure, tpure, sspure, kset, tset, ksnoc, tsnoc, Kind.av, Twist.sl, Twist.tr, Invar.av, eq_true c1, c2, eq_true c3]
        refine callP_of (containsFunc t.by' _ _ (fun x => !within x 0 (k.o - 1)) rfl rfl (fun _ => rfl) (fun x _ => isTwist1 x k.c k.o (by have := hk.2; omega) hk.2.2) h2) ?_
        simp -dsimp -implicitDefEqProofs (disch := first | omega | (simp only [lenr]; done) | (simp only [lenr]; omega)) only [↓amPre, amAll, ↓reduceIte, reduceCtorEq, Nat.reduceEqDiff, Nat.reduceBEq, Nat.reduceAdd, Nat.reduceLeDiff, Nat.reduceSub, Nat.reduceMul, Int.reduceToNat, List.size_toArray, tyF, MM, bu0, ipure, kpure, tpure, sspure, kset, tset, ksnoc, tsnoc, Kind.av, Twist.sl, Twist.tr, Invar.av, eq_true c1, c2, eq_true c3]
        refine fin _ ?_
        simp only [Bool.not_eq_true', List.any_eq_false, Bool.not_eq_true, Bool.not_eq_false', Bool.not_eq_false, within_iff, twOk, c1, c2, c3, true_and]
        exact ⟨fun q x hx => by have := q x hx; omega, fun q x hx => by have := q x hx; omega⟩
      · simp -dsimp -implicitDefEqProofs (disch := first | omega | (simp only [lenr]; done) | (simp only [lenr]; omega)) only [↓amPre, amAll, ↓reduceIte, reduceCtorEq, Nat.reduceEqDiff, Nat.reduceBEq, Nat.reduceAdd, Nat.reduceLeDiff, Nat.reduceSub, Nat.reduceMul, Int.reduceToNat, List.size_toArray, tyF, MM, bu0, ipure, kpure, tpure, sspure, kset, tset, ksnoc, tsnoc, Kind.av, Twist.sl, Twist.tr, Invar.av, eq_true c1, c2, eq_false c3]
        refine fin _ ?_
        simp only [twOk, c3, false_and, and_false, reduceCtorEq]
    · simp -dsimp -implicitDefEqProofs (disch := first | omega | (simp only [lenr]; done) | (simp only [lenr]; omega)) only [↓amPre, amAll, ↓reduceIte, reduceCtorEq, Nat.reduceEqDiff, Nat.reduceBEq, Nat.reduceAdd, Nat.reduceLeDiff, Nat.reduceSub, Nat.reduceMul, Int.reduceToNat, List.size_toArray, tyF, MM, bu0, ipure, kpure, tpure, sspure, kset, tset, ksnoc, tsnoc, Kind.av, Twist.sl, Twist.tr, Invar.av, eq_true c1, c2]
      refine fin _ ?_
      simp only [twOk, c2, false_and, and_false, reduceCtorEq]
  · simp -dsimp -implicitDefEqProofs (disch := first | omega | (simp only [lenr]; done) | (simp only [lenr]; omega)) only [↓amPre, amAll, ↓reduceIte, reduceCtorEq, Nat.reduceEqDiff, Nat.reduceBEq, Nat.reduceAdd, Nat.reduceLeDiff, Nat.reduceSub, Nat.reduceMul, Int.reduceToNat, List.size_toArray, tyF, MM, bu0, ipure, kpure, tpure, sspure, kset, tset, ksnoc, tsnoc, Kind.av, Twist.sl, Twist.tr, Invar.av, eq_false c1]
    refine fin _ ?_
    simp only [twOk, c1, false_and, and_false, reduceCtorEq]
theorem sValidTwist (k : Kind) (t : Twist) (hk : kOk k) (h1 : t.to.length ≤ 1099511627776) (h2 : t.by'.length ≤ 1099511627776) : SpecAt Tryd.prog 58 [k.av, t.sl] (.bl (decide (twOk k t))) := by
  have hk2 := hk.2
  refine spec_of_awp (M := MM) (np := 2) (fz := true) mixed Tryd.func58 rfl rfl (by decide) rfl (Nat.le_refl _) (by decide +kernel) (.inr ⟨rfl, rfl⟩) trivial ?_
  simp -dsimp -implicitDefEqProofs (disch := first | omega | (simp only [lenr]; done) | (simp only [lenr]; omega)) only [↓amPre, amAll, ↓reduceIte, reduceCtorEq, Nat.reduceEqDiff, Nat.reduceBEq, Nat.reduceAdd, Nat.reduceLeDiff, Nat.reduceSub, Nat.reduceMul, Int.reduceToNat, List.size_toArray, tyF, MM, bu0, ipure, kpure, tpure, sspure, kset, tset, ksnoc, tsnoc, Kind.av, Twist.sl, Twist.tr, Invar.av]
  have fin : ∀ b : Bool, (b = true ↔ twOk k t) → Value.bool b = Value.bool (decide (twOk k t)) := fun b h => bl_eq (by rw [h, decide_eq_true_iff])
  by_cases c1 : (t.to.length : Int) = k.c
  · by_cases c3 : (t.by'.length : Int) = k.c
    · simp -dsimp -implicitDefEqProofs (disch := first | omega | (simp only [lenr]; done) | (simp only [lenr]; omega)) only [↓amPre, amAll, ↓reduceIte, reduceCtorEq, Nat.reduceEqDiff, Nat.reduceBEq, Nat.reduceAdd, Nat.reduceLeDiff, Nat.reduceSub, Nat.reduceMul, Int.reduceToNat, List.size_toArray, tyF, MM, bu0, ipure, kpure, tpure, sspure, kset, tset, ksnoc, tsnoc, Kind.av, Twist.sl, Twist.tr, Invar.av, ne_false c1, ne_false c3]
      refine callP_of (sIsPerm _ h1) ?_
      by_cases c2 : isPerm t.to
      · simp -dsimp -implicitDefEqProofs (disch := first | omega | (simp only [lenr]; done) | (simp only [lenr]; omega)) only [↓amPre, amAll, ↓reduceIte, reduceCtorEq, Nat.reduceEqDiff, Nat.reduceBEq, Nat.reduceAdd, Nat.reduceLeDiff, Nat.reduceSub, Nat.reduceMul, Int.reduceToNat, List.size_toArray, tyF, MM, bu0, ipure, kpure, tpure, sspure, kset, tset, ksnoc, tsnoc, Kind.av, Twist.sl, Twist.tr, Invar.av, c2]
        refine awp_loop (fun j st => j ≤ t.by'.length ∧ st.fr 5 = .i64 j ∧ st.fr 2 = .loc 2 [] 0 0 ∧ st.fr 3 = .loc 3 [] 0 0 ∧ st.mem 2 = some (.pt 2 k.av) ∧ st.mem 3 = some (.pt 2 (.agg [isl t.to, isl t.by'])) ∧ ∀ x ∈ t.by'.take j, 0 ≤ x ∧ x < k.o) (t.by'.length) ?_ ?_
        · simp -dsimp -implicitDefEqProofs (disch := first | omega | (simp only [lenr]; done) | (simp only [lenr]; omega)) only [↓amPre, amAll, ↓reduceIte, reduceCtorEq, Nat.reduceEqDiff, Nat.reduceBEq, Nat.reduceAdd, Nat.reduceLeDiff, Nat.reduceSub, Nat.reduceMul, Int.reduceToNat, List.size_toArray, tyF, MM, bu0, ipure, kpure, tpure, sspure, kset, tset, ksnoc, tsnoc, Kind.av, Twist.sl, Twist.tr, Invar.av]
          simp
        rintro j st _ ⟨hj, f5, f2, f3, m2, m3, ej⟩
        by_cases hlt : j < t.by'.length
        · simp -dsimp -implicitDefEqProofs (disch := first | omega | (simp only [lenr]; done) | (simp only [lenr]; omega)) only [↓amPre, amAll, ↓reduceIte, reduceCtorEq, Nat.reduceEqDiff, Nat.reduceBEq, Nat.reduceAdd, Nat.reduceLeDiff, Nat.reduceSub, Nat.reduceMul, Int.reduceToNat, List.size_toArray, tyF, MM, bu0, ipure, kpure, tpure, sspure, kset, tset, ksnoc, tsnoc, Kind.av, Twist.sl, Twist.tr, Invar.av, f5, f2, f3, m2, m3]
          refine callP_of (inRange _ _ _) ?_
          cases w : within (t.by'.getD j 0) 0 (k.o - 1) with
          | false =>
            simp -dsimp -implicitDefEqProofs (disch := first | omega | (simp only [lenr]; done) | (simp only [lenr]; omega)) only [↓amPre, amAll, ↓reduceIte, reduceCtorEq, Nat.reduceEqDiff, Nat.reduceBEq, Nat.reduceAdd, Nat.reduceLeDiff, Nat.reduceSub, Nat.reduceMul, Int.reduceToNat, List.size_toArray, tyF, MM, bu0, ipure, kpure, tpure, sspure, kset, tset, ksnoc, tsnoc, Kind.av, Twist.sl, Twist.tr, Invar.av, w]
            refine fin _ ?_
            rw [within_not] at w
            simp only [reduceCtorEq, false_iff]
            intro q; have := q.2.2.2 _ (mem_getD _ j 0 hlt); omega
          | true =>
            rw [within_iff] at w
            simp -dsimp -implicitDefEqProofs (disch := first | omega | (simp only [lenr]; done) | (simp only [lenr]; omega)) only [↓amPre, amAll, ↓reduceIte, reduceCtorEq, Nat.reduceEqDiff, Nat.reduceBEq, Nat.reduceAdd, Nat.reduceLeDiff, Nat.reduceSub, Nat.reduceMul, Int.reduceToNat, List.size_toArray, tyF, MM, bu0, ipure, kpure, tpure, sspure, kset, tset, ksnoc, tsnoc, Kind.av, Twist.sl, Twist.tr, Invar.av, f5, f2, f3, m2, m3, within_iff.2 w]
            repeat' (first | omega | rfl | exact i64c (by omega) | exact vic (by omega) | exact (mem_take_succ (d := 0) hlt).2 ⟨ej, by omega⟩ | apply And.intro)
        · have hje : j = t.by'.length := by omega
          subst hje
          rw [List.take_length] at ej
          simp -dsimp -implicitDefEqProofs (disch := first | omega | (simp only [lenr]; done) | (simp only [lenr]; omega)) only [↓amPre, amAll, ↓reduceIte, reduceCtorEq, Nat.reduceEqDiff, Nat.reduceBEq, Nat.reduceAdd, Nat.reduceLeDiff, Nat.reduceSub, Nat.reduceMul, Int.reduceToNat, List.size_toArray, tyF, MM, bu0, ipure, kpure, tpure, sspure, kset, tset, ksnoc, tsnoc, Kind.av, Twist.sl, Twist.tr, Invar.av, f5, f2, f3, m2, m3]
          refine fin _ ?_
          simp only [true_iff]
          exact ⟨c1, c3, c2, ej⟩
      · simp -dsimp -implicitDefEqProofs (disch := first | omega | (simp only [lenr]; done) | (simp only [lenr]; omega)) only [↓amPre, amAll, ↓reduceIte, reduceCtorEq, Nat.reduceEqDiff, Nat.reduceBEq, Nat.reduceAdd, Nat.reduceLeDiff, Nat.reduceSub, Nat.reduceMul, Int.reduceToNat, List.size_toArray, tyF, MM, bu0, ipure, kpure, tpure, sspure, kset, tset, ksnoc, tsnoc, Kind.av, Twist.sl, Twist.tr, Invar.av, c2]
        refine fin _ ?_
        simp only [twOk, c2, false_and, and_false, reduceCtorEq]
    · simp -dsimp -implicitDefEqProofs (disch := first | omega | (simp only [lenr]; done) | (simp only [lenr]; omega)) only [↓amPre, amAll, ↓reduceIte, reduceCtorEq, Nat.reduceEqDiff, Nat.reduceBEq, Nat.reduceAdd, Nat.reduceLeDiff, Nat.reduceSub, Nat.reduceMul, Int.reduceToNat, List.size_toArray, tyF, MM, bu0, ipure, kpure, tpure, sspure, kset, tset, ksnoc, tsnoc, Kind.av, Twist.sl, Twist.tr, Invar.av, ne_false c1, ne_true c3]
      refine fin _ ?_
      simp only [twOk, c3, false_and, and_false, reduceCtorEq]
  · simp -dsimp -implicitDefEqProofs (disch := first | omega | (simp only [lenr]; done) | (simp only [lenr]; omega)) only [↓amPre, amAll, ↓reduceIte, reduceCtorEq, Nat.reduceEqDiff, Nat.reduceBEq, Nat.reduceAdd, Nat.reduceLeDiff, Nat.reduceSub, Nat.reduceMul, Int.reduceToNat, List.size_toArray, tyF, MM, bu0, ipure, kpure, tpure, sspure, kset, tset, ksnoc, tsnoc, Kind.av, Twist.sl, Twist.tr, Invar.av, ne_true c1]
    refine fin _ ?_
    simp only [twOk, c1, false_and, and_false, reduceCtorEq]
theorem iIsPieceState (ks : List Kind) (s : List Twist) (h1 : ks.length ≤ 1099511627776) (h2 : s.length ≤ 1099511627776) (h3 : ∀ t ∈ s, t.to.length ≤ 1099511627776 ∧ t.by'.length ≤ 1099511627776) : SpecAt Tryd.prog 38 [ksl ks, tsl s] (.bl (decide (psOk ks s))) := by
  refine spec_of_awp (M := MM) (np := 2) (fz := true) mixed Tryd.func38 rfl rfl (by decide) rfl (Nat.le_refl _) (by decide +kernel) (.inr ⟨rfl, rfl⟩) trivial ?_
  simp -dsimp -implicitDefEqProofs (disch := first | omega | (simp only [lenr]; done) | (simp only [lenr]; omega)) only [↓amPre, amAll, ↓reduceIte, reduceCtorEq, Nat.reduceEqDiff, Nat.reduceBEq, Nat.reduceAdd, Nat.reduceLeDiff, Nat.reduceSub, Nat.reduceMul, Int.reduceToNat, List.size_toArray, tyF, MM, bu0, ipure, kpure, tpure, sspure, kset, tset, ksnoc, tsnoc, Kind.av, Twist.sl, Twist.tr, Invar.av]
  refine callP_of (iAreValidKinds _ h1) ?_
  have fin : ∀ b : Bool, (b = true ↔ psOk ks s) → Value.bool b = Value.bool (decide (psOk ks s)) := fun b h => bl_eq (by rw [h, decide_eq_true_iff])
  by_cases c1 : kindsOk ks
  · by_cases c2 : (s.length : Int) = ks.length
    · have c2' : s.length = ks.length := by omega
      simp -dsimp -implicitDefEqProofs (disch := first | omega | (simp only [lenr]; done) | (simp only [lenr]; omega)) only [↓amPre, amAll, ↓reduceIte, reduceCtorEq, Nat.reduceEqDiff, Nat.reduceBEq, Nat.reduceAdd, Nat.reduceLeDiff, Nat.reduceSub, Nat.reduceMul, Int.reduceToNat, List.size_toArray, tyF, MM, bu0, ipure, kpure, tpure, sspure, kset, tset, ksnoc, tsnoc, Kind.av, Twist.sl, Twist.tr, Invar.av, c1, ne_false c2]
      refine awp_loop (fun k st => k ≤ ks.length ∧ st.fr 19 = .i64 k ∧ st.fr 18 = .i64 ks.length ∧ st.fr 17 = ksl ks ∧ st.fr 1 = tsl s ∧ ∀ i, i < k → twOk (ks.getD i default) (s.getD i default)) (ks.length) ?_ ?_
      · simp -dsimp -implicitDefEqProofs (disch := first | omega | (simp only [lenr]; done) | (simp only [lenr]; omega)) only [↓amPre, amAll, ↓reduceIte, reduceCtorEq, Nat.reduceEqDiff, Nat.reduceBEq, Nat.reduceAdd, Nat.reduceLeDiff, Nat.reduceSub, Nat.reduceMul, Int.reduceToNat, List.size_toArray, tyF, MM, bu0, ipure, kpure, tpure, sspure, kset, tset, ksnoc, tsnoc, Kind.av, Twist.sl, Twist.tr, Invar.av]
        simp
      rintro k st _ ⟨hk, f19, f18, f17, f1, ek⟩
      by_cases hlt : k < ks.length
      · obtain ⟨e1, e2⟩ := h3 _ (mem_getD s k default (by omega))
        simp -dsimp -implicitDefEqProofs (disch := first | omega | (simp only [lenr]; done) | (simp only [lenr]; omega)) only [↓amPre, amAll, ↓reduceIte, reduceCtorEq, Nat.reduceEqDiff, Nat.reduceBEq, Nat.reduceAdd, Nat.reduceLeDiff, Nat.reduceSub, Nat.reduceMul, Int.reduceToNat, List.size_toArray, tyF, MM, bu0, ipure, kpure, tpure, sspure, kset, tset, ksnoc, tsnoc, Kind.av, Twist.sl, Twist.tr, Invar.av, f19, f18, f17, f1]
        refine callP_of (isTwist (ks.getD k default) (s.getD k default) (c1.2.1 _ (mem_getD ks k default hlt)) e1 e2) ?_
        by_cases w : twOk (ks.getD k default) (s.getD k default)
        · simp -dsimp -implicitDefEqProofs (disch := first | omega | (simp only [lenr]; done) | (simp only [lenr]; omega)) only [↓amPre, amAll, ↓reduceIte, reduceCtorEq, Nat.reduceEqDiff, Nat.reduceBEq, Nat.reduceAdd, Nat.reduceLeDiff, Nat.reduceSub, Nat.reduceMul, Int.reduceToNat, List.size_toArray, tyF, MM, bu0, ipure, kpure, tpure, sspure, kset, tset, ksnoc, tsnoc, Kind.av, Twist.sl, Twist.tr, Invar.av, f19, f18, f17, f1, w]
          refine ⟨hlt, hlt, fun i hi => ?_⟩
          by_cases e : i = k
          · subst e; exact w
          · exact ek i (by omega)
        · simp -dsimp -implicitDefEqProofs (disch := first | omega | (simp only [lenr]; done) | (simp only [lenr]; omega)) only [↓amPre, amAll, ↓reduceIte, reduceCtorEq, Nat.reduceEqDiff, Nat.reduceBEq, Nat.reduceAdd, Nat.reduceLeDiff, Nat.reduceSub, Nat.reduceMul, Int.reduceToNat, List.size_toArray, tyF, MM, bu0, ipure, kpure, tpure, sspure, kset, tset, ksnoc, tsnoc, Kind.av, Twist.sl, Twist.tr, Invar.av, f19, f18, f17, f1, w]
          refine fin _ ?_
          simp only [reduceCtorEq, false_iff]
          intro q; exact w (q.2.2 k hlt)
      · have hke : k = ks.length := by omega
        subst hke
        simp -dsimp -implicitDefEqProofs (disch := first | omega | (simp only [lenr]; done) | (simp only [lenr]; omega)) only [↓amPre, amAll, ↓reduceIte, reduceCtorEq, Nat.reduceEqDiff, Nat.reduceBEq, Nat.reduceAdd, Nat.reduceLeDiff, Nat.reduceSub, Nat.reduceMul, Int.reduceToNat, List.size_toArray, tyF, MM, bu0, ipure, kpure, tpure, sspure, kset, tset, ksnoc, tsnoc, Kind.av, Twist.sl, Twist.tr, Invar.av, f19, f18, f17, f1]
        refine fin _ ?_
        simp only [true_iff]
        exact ⟨c1, c2', ek⟩
    · simp -dsimp -implicitDefEqProofs (disch := first | omega | (simp only [lenr]; done) | (simp only [lenr]; omega)) only [↓amPre, amAll, ↓reduceIte, reduceCtorEq, Nat.reduceEqDiff, Nat.reduceBEq, Nat.reduceAdd, Nat.reduceLeDiff, Nat.reduceSub, Nat.reduceMul, Int.reduceToNat, List.size_toArray, tyF, MM, bu0, ipure, kpure, tpure, sspure, kset, tset, ksnoc, tsnoc, Kind.av, Twist.sl, Twist.tr, Invar.av, c1, ne_true c2]
      refine fin _ ?_
      simp only [reduceCtorEq, false_iff]
      intro q; have := q.2.1; omega
  · simp -dsimp -implicitDefEqProofs (disch := first | omega | (simp only [lenr]; done) | (simp only [lenr]; omega)) only [↓amPre, amAll, ↓reduceIte, reduceCtorEq, Nat.reduceEqDiff, Nat.reduceBEq, Nat.reduceAdd, Nat.reduceLeDiff, Nat.reduceSub, Nat.reduceMul, Int.reduceToNat, List.size_toArray, tyF, MM, bu0, ipure, kpure, tpure, sspure, kset, tset, ksnoc, tsnoc, Kind.av, Twist.sl, Twist.tr, Invar.av, c1]
    refine fin _ ?_
    simp only [reduceCtorEq, false_iff]
    exact fun q => c1 q.1
theorem sIsPieceState (ks : List Kind) (s : List Twist) (h1 : ks.length ≤ 1099511627776) (h2 : s.length ≤ 1099511627776) (h3 : ∀ t ∈ s, t.to.length ≤ 1099511627776 ∧ t.by'.length ≤ 1099511627776) : SpecAt Tryd.prog 34 [ksl ks, tsl s] (.bl (decide (psOk ks s))) := by
  refine spec_of_awp (M := MM) (np := 2) (fz := true) mixed Tryd.func34 rfl rfl (by decide) rfl (Nat.le_refl _) (by decide +kernel) (.inr ⟨rfl, rfl⟩) trivial ?_
  simp -dsimp -implicitDefEqProofs (disch := first | omega | (simp only [lenr]; done) | (simp only [lenr]; omega)) only [↓amPre, amAll, ↓reduceIte, reduceCtorEq, Nat.reduceEqDiff, Nat.reduceBEq, Nat.reduceAdd, Nat.reduceLeDiff, Nat.reduceSub, Nat.reduceMul, Int.reduceToNat, List.size_toArray, tyF, MM, bu0, ipure, kpure, tpure, sspure, kset, tset, ksnoc, tsnoc, Kind.av, Twist.sl, Twist.tr, Invar.av]
  refine callP_of (sAreValidKinds _ h1) ?_
  have fin : ∀ b : Bool, (b = true ↔ psOk ks s) → Value.bool b = Value.bool (decide (psOk ks s)) := fun b h => bl_eq (by rw [h, decide_eq_true_iff])
  by_cases c1 : kindsOk ks
  · by_cases c2 : (s.length : Int) = ks.length
    · have c2' : s.length = ks.length := by omega
      simp -dsimp -implicitDefEqProofs (disch := first | omega | (simp only [lenr]; done) | (simp only [lenr]; omega)) only [↓amPre, amAll, ↓reduceIte, reduceCtorEq, Nat.reduceEqDiff, Nat.reduceBEq, Nat.reduceAdd, Nat.reduceLeDiff, Nat.reduceSub, Nat.reduceMul, Int.reduceToNat, List.size_toArray, tyF, MM, bu0, ipure, kpure, tpure, sspure, kset, tset, ksnoc, tsnoc, Kind.av, Twist.sl, Twist.tr, Invar.av, c1, ne_false c2]
      refine awp_loop (fun k st => k ≤ ks.length ∧ st.fr 5 = .i64 k ∧ st.fr 0 = ksl ks ∧ st.fr 1 = tsl s ∧ ∀ i, i < k → twOk (ks.getD i default) (s.getD i default)) (ks.length) ?_ ?_
      · simp -dsimp -implicitDefEqProofs (disch := first | omega | (simp only [lenr]; done) | (simp only [lenr]; omega)) only [↓amPre, amAll, ↓reduceIte, reduceCtorEq, Nat.reduceEqDiff, Nat.reduceBEq, Nat.reduceAdd, Nat.reduceLeDiff, Nat.reduceSub, Nat.reduceMul, Int.reduceToNat, List.size_toArray, tyF, MM, bu0, ipure, kpure, tpure, sspure, kset, tset, ksnoc, tsnoc, Kind.av, Twist.sl, Twist.tr, Invar.av]
        simp
      rintro k st _ ⟨hk, f5, f0, f1, ek⟩
      by_cases hlt : k < ks.length
      · obtain ⟨e1, e2⟩ := h3 _ (mem_getD s k default (by omega))
        simp -dsimp -implicitDefEqProofs (disch := first | omega | (simp only [lenr]; done) | (simp only [lenr]; omega)) only [↓amPre, amAll, ↓reduceIte, reduceCtorEq, Nat.reduceEqDiff, Nat.reduceBEq, Nat.reduceAdd, Nat.reduceLeDiff, Nat.reduceSub, Nat.reduceMul, Int.reduceToNat, List.size_toArray, tyF, MM, bu0, ipure, kpure, tpure, sspure, kset, tset, ksnoc, tsnoc, Kind.av, Twist.sl, Twist.tr, Invar.av, f5, f0, f1]
        refine callP_of (sValidTwist (ks.getD k default) (s.getD k default) (c1.2.1 _ (mem_getD ks k default hlt)) e1 e2) ?_
        by_cases w : twOk (ks.getD k default) (s.getD k default)
        · simp -dsimp -implicitDefEqProofs (disch := first | omega | (simp only [lenr]; done) | (simp only [lenr]; omega)) only [↓amPre, amAll, ↓reduceIte, reduceCtorEq, Nat.reduceEqDiff, Nat.reduceBEq, Nat.reduceAdd, Nat.reduceLeDiff, Nat.reduceSub, Nat.reduceMul, Int.reduceToNat, List.size_toArray, tyF, MM, bu0, ipure, kpure, tpure, sspure, kset, tset, ksnoc, tsnoc, Kind.av, Twist.sl, Twist.tr, Invar.av, f5, f0, f1, w]
          refine ⟨hlt, hlt, fun i hi => ?_⟩
          by_cases e : i = k
          · subst e; exact w
          · exact ek i (by omega)
        · simp -dsimp -implicitDefEqProofs (disch := first | omega | (simp only [lenr]; done) | (simp only [lenr]; omega)) only [↓amPre, amAll, ↓reduceIte, reduceCtorEq, Nat.reduceEqDiff, Nat.reduceBEq, Nat.reduceAdd, Nat.reduceLeDiff, Nat.reduceSub, Nat.reduceMul, Int.reduceToNat, List.size_toArray, tyF, MM, bu0, ipure, kpure, tpure, sspure, kset, tset, ksnoc, tsnoc, Kind.av, Twist.sl, Twist.tr, Invar.av, f5, f0, f1, w]
          refine fin _ ?_
          simp only [reduceCtorEq, false_iff]
          intro q; exact w (q.2.2 k hlt)
      · have hke : k = ks.length := by omega
        subst hke
        simp -dsimp -implicitDefEqProofs (disch := first | omega | (simp only [lenr]; done) | (simp only [lenr]; omega)) only [↓amPre, amAll, ↓reduceIte, reduceCtorEq, Nat.reduceEqDiff, Nat.reduceBEq, Nat.reduceAdd, Nat.reduceLeDiff, Nat.reduceSub, Nat.reduceMul, Int.reduceToNat, List.size_toArray, tyF, MM, bu0, ipure, kpure, tpure, sspure, kset, tset, ksnoc, tsnoc, Kind.av, Twist.sl, Twist.tr, Invar.av, f5, f0, f1]
        refine fin _ ?_
        simp only [true_iff]
        exact ⟨c1, c2', ek⟩
    · simp -dsimp -implicitDefEqProofs (disch := first | omega | (simp only [lenr]; done) | (simp only [lenr]; omega)) only [↓amPre, amAll, ↓reduceIte, reduceCtorEq, Nat.reduceEqDiff, Nat.reduceBEq, Nat.reduceAdd, Nat.reduceLeDiff, Nat.reduceSub, Nat.reduceMul, Int.reduceToNat, List.size_toArray, tyF, MM, bu0, ipure, kpure, tpure, sspure, kset, tset, ksnoc, tsnoc, Kind.av, Twist.sl, Twist.tr, Invar.av, c1, ne_true c2]
      refine fin _ ?_
      simp only [reduceCtorEq, false_iff]
      intro q; have := q.2.1; omega
  · simp -dsimp -implicitDefEqProofs (disch := first | omega | (simp only [lenr]; done) | (simp only [lenr]; omega)) only [↓amPre, amAll, ↓reduceIte, reduceCtorEq, Nat.reduceEqDiff, Nat.reduceBEq, Nat.reduceAdd, Nat.reduceLeDiff, Nat.reduceSub, Nat.reduceMul, Int.reduceToNat, List.size_toArray, tyF, MM, bu0, ipure, kpure, tpure, sspure, kset, tset, ksnoc, tsnoc, Kind.av, Twist.sl, Twist.tr, Invar.av, c1]
    refine fin _ ?_
    simp only [reduceCtorEq, false_iff]
    exact fun q => c1 q.1
end Go.AM
set_option maxRecDepth 8000
namespace Go.AM
namespace Door
open Go.Proofs
def twT (t : Twist) : List UInt8 := [116, 111, 32] ++ jn t.to ++ [10, 98, 121, 32] ++ jn t.by' ++ [10]
def twK (s : List Twist) : Nat → List UInt8
  | 0 => []
  | k + 1 => twK s k ++ twT (s.getD k default)
def nums (l : List Int) : Prop := l.length ≤ 20 ∧ (∀ x ∈ l, intOk x) ∧ ∀ x ∈ l, 0 ≤ x
def okT (s : List Twist) : Prop := ∀ k, k < s.length → nums (s.getD k default).to ∧ nums (s.getD k default).by'
theorem ps_okT {ks : List Kind} {s : List Twist} (h : psOk ks s) : okT s ∧ s.length ≤ 3 := by
  refine ⟨fun k hk => ?_, by have := h.1.1; have := h.2.1; omega⟩
  have hk' : k < ks.length := by have := h.2.1; omega
  obtain ⟨h1, h2, h3, h4⟩ := h.2.2 k hk'
  have hko := h.1.2.1 _ (show ks.getD k default ∈ ks by rw [getD_eq _ _ _ hk']; exact List.getElem_mem hk')
  obtain ⟨hc, ho⟩ := hko
  refine ⟨⟨by omega, fun x hx => ?_, fun x hx => ?_⟩, by omega, fun x hx => ?_, fun x hx => ?_⟩
  · have := h3.2.1 x hx; unfold intOk; omega
  · have := h3.2.1 x hx; omega
  · have := h4 x hx; unfold intOk; omega
  · have := h4 x hx; omega
theorem twT_len {t : Twist} (h1 : nums t.to) (h2 : nums t.by') : (twT t).length ≤ 888 := by
  have a := jn_len _ h1.2.1
  have b := jn_len _ h2.2.1
  have := h1.1
  have := h2.1
  simp only [twT, List.length_append, List.length_cons, List.length_nil]
  omega
theorem twK_len {s : List Twist} (h : okT s) : ∀ k, k ≤ s.length → (twK s k).length ≤ 888 * k
  | 0, _ => by simp [twK]
  | k + 1, hk => by
    have h1 := twK_len h k (by omega)
    have h2 := h k (by omega)
    have h3 := twT_len h2.1 h2.2
    simp only [twK, List.length_append]
    omega
theorem twistsText (s : List Twist) (h : okT s) (hl : s.length ≤ 3) : SpecAt Tryd.prog 39 [tsl s] (.st (twK s s.length)) := by
  refine spec_of_awp (M := MM) (np := 1) (fz := true) mixed Tryd.func39 rfl rfl (by decide) rfl (Nat.le_refl _) (by decide +kernel) (.inr ⟨rfl, rfl⟩) trivial ?_
  simp -dsimp -implicitDefEqProofs (disch := first | omega | (simp only [lenr]; done) | (simp only [lenr]; omega)) only [↓amPre, amAll, ↓reduceIte, reduceCtorEq, Nat.reduceEqDiff, Nat.reduceBEq, Nat.reduceAdd, Nat.reduceLeDiff, Nat.reduceSub, Nat.reduceMul, Int.reduceToNat, List.size_toArray, tyF, MM, bu0, ipure, kpure, tpure, sspure, kset, tset, ksnoc, tsnoc, Kind.av, Twist.sl, Twist.tr, Invar.av, stsize, stget, sttl, stapp, stext, tsspure, Model.sl, Model.tr, vset, vsnoc, vpure, Puzz.sl, Puzz.tr, sttl, stapp, stsize, pushB_one, sL0, stset, stfz]
  refine awp_loop (fun k st => k ≤ s.length ∧ st.fr 8 = .i64 k ∧ st.fr 6 = tsl s ∧ st.fr 7 = .i64 s.length ∧ st.fr 3 = .st (twK s k)) (s.length) ?_ ?_
  · simp -dsimp -implicitDefEqProofs (disch := first | omega | (simp only [lenr]; done) | (simp only [lenr]; omega)) only [↓amPre, amAll, ↓reduceIte, reduceCtorEq, Nat.reduceEqDiff, Nat.reduceBEq, Nat.reduceAdd, Nat.reduceLeDiff, Nat.reduceSub, Nat.reduceMul, Int.reduceToNat, List.size_toArray, tyF, MM, bu0, ipure, kpure, tpure, sspure, kset, tset, ksnoc, tsnoc, Kind.av, Twist.sl, Twist.tr, Invar.av, stsize, stget, sttl, stapp, stext, tsspure, Model.sl, Model.tr, vset, vsnoc, vpure, Puzz.sl, Puzz.tr, sttl, stapp, stsize, pushB_one, sL0, stset, stfz]
    exact ⟨by omega, rfl, rfl⟩
  rintro k st _ ⟨hk, f8, f6, f7, f3⟩
  have hkl := twK_len h k (by omega)
  by_cases hlt : k < s.length
  · have hk := h k hlt
    have l1 := jn_len _ hk.1.2.1
    have l2 := jn_len _ hk.2.2.1
    have q1 := hk.1.1
    have q2 := hk.2.1
    simp -dsimp -implicitDefEqProofs (disch := first | omega | (simp only [lenr]; done) | (simp only [lenr]; omega)) only [↓amPre, amAll, ↓reduceIte, reduceCtorEq, Nat.reduceEqDiff, Nat.reduceBEq, Nat.reduceAdd, Nat.reduceLeDiff, Nat.reduceSub, Nat.reduceMul, Int.reduceToNat, List.size_toArray, tyF, MM, bu0, ipure, kpure, tpure, sspure, kset, tset, ksnoc, tsnoc, Kind.av, Twist.sl, Twist.tr, Invar.av, stsize, stget, sttl, stapp, stext, tsspure, Model.sl, Model.tr, vset, vsnoc, vpure, Puzz.sl, Puzz.tr, sttl, stapp, stsize, pushB_one, sL0, stset, stfz, f8, f6, f7, f3]
    refine callP_of (joinNumbers _ (by omega) hk.1.2.1) ?_
    simp -dsimp -implicitDefEqProofs (disch := first | omega | (simp only [lenr]; done) | (simp only [lenr]; omega)) only [↓amPre, amAll, ↓reduceIte, reduceCtorEq, Nat.reduceEqDiff, Nat.reduceBEq, Nat.reduceAdd, Nat.reduceLeDiff, Nat.reduceSub, Nat.reduceMul, Int.reduceToNat, List.size_toArray, tyF, MM, bu0, ipure, kpure, tpure, sspure, kset, tset, ksnoc, tsnoc, Kind.av, Twist.sl, Twist.tr, Invar.av, stsize, stget, sttl, stapp, stext, tsspure, Model.sl, Model.tr, vset, vsnoc, vpure, Puzz.sl, Puzz.tr, sttl, stapp, stsize, pushB_one, sL0, stset, stfz, f8, f6, f7, f3]
    refine callP_of (joinNumbers _ (by omega) hk.2.2.1) ?_
    simp -dsimp -implicitDefEqProofs (disch := first | omega | (simp only [lenr]; done) | (simp only [lenr]; omega)) only [↓amPre, amAll, ↓reduceIte, reduceCtorEq, Nat.reduceEqDiff, Nat.reduceBEq, Nat.reduceAdd, Nat.reduceLeDiff, Nat.reduceSub, Nat.reduceMul, Int.reduceToNat, List.size_toArray, tyF, MM, bu0, ipure, kpure, tpure, sspure, kset, tset, ksnoc, tsnoc, Kind.av, Twist.sl, Twist.tr, Invar.av, stsize, stget, sttl, stapp, stext, tsspure, Model.sl, Model.tr, vset, vsnoc, vpure, Puzz.sl, Puzz.tr, sttl, stapp, stsize, pushB_one, sL0, stset, stfz, f8, f6, f7, f3]
    refine ⟨hlt, by omega, ?_⟩
    simp [twK, twT, List.append_assoc]
  · have hk : k = s.length := by omega
    subst hk
    simp -dsimp -implicitDefEqProofs (disch := first | omega | (simp only [lenr]; done) | (simp only [lenr]; omega)) only [↓amPre, amAll, ↓reduceIte, reduceCtorEq, Nat.reduceEqDiff, Nat.reduceBEq, Nat.reduceAdd, Nat.reduceLeDiff, Nat.reduceSub, Nat.reduceMul, Int.reduceToNat, List.size_toArray, tyF, MM, bu0, ipure, kpure, tpure, sspure, kset, tset, ksnoc, tsnoc, Kind.av, Twist.sl, Twist.tr, Invar.av, stsize, stget, sttl, stapp, stext, tsspure, Model.sl, Model.tr, vset, vsnoc, vpure, Puzz.sl, Puzz.tr, sttl, stapp, stsize, pushB_one, sL0, stset, stfz, f8, f6, f7, f3]
theorem l23State (s : List Twist) (h : okT s) (hl : s.length ≤ 3) : SpecAt Tryd.prog 35 [tsl s] (.st (twK s s.length)) := by
  refine spec_of_awp (M := MM) (np := 1) (fz := true) mixed Tryd.func35 rfl rfl (by decide) rfl (Nat.le_refl _) (by decide +kernel) (.inr ⟨rfl, rfl⟩) trivial ?_
  simp -dsimp -implicitDefEqProofs (disch := first | omega | (simp only [lenr]; done) | (simp only [lenr]; omega)) only [↓amPre, amAll, ↓reduceIte, reduceCtorEq, Nat.reduceEqDiff, Nat.reduceBEq, Nat.reduceAdd, Nat.reduceLeDiff, Nat.reduceSub, Nat.reduceMul, Int.reduceToNat, List.size_toArray, tyF, MM, bu0, ipure, kpure, tpure, sspure, kset, tset, ksnoc, tsnoc, Kind.av, Twist.sl, Twist.tr, Invar.av, stsize, stget, sttl, stapp, stext, tsspure, Model.sl, Model.tr, vset, vsnoc, vpure, Puzz.sl, Puzz.tr, sttl, stapp, stsize, pushB_one, sL0, stset, stfz]
  refine awp_loop (fun k st => k ≤ s.length ∧ st.fr 4 = .i64 k ∧ st.fr 0 = tsl s ∧ st.fr 3 = .st (twK s k)) (s.length) ?_ ?_
  · simp -dsimp -implicitDefEqProofs (disch := first | omega | (simp only [lenr]; done) | (simp only [lenr]; omega)) only [↓amPre, amAll, ↓reduceIte, reduceCtorEq, Nat.reduceEqDiff, Nat.reduceBEq, Nat.reduceAdd, Nat.reduceLeDiff, Nat.reduceSub, Nat.reduceMul, Int.reduceToNat, List.size_toArray, tyF, MM, bu0, ipure, kpure, tpure, sspure, kset, tset, ksnoc, tsnoc, Kind.av, Twist.sl, Twist.tr, Invar.av, stsize, stget, sttl, stapp, stext, tsspure, Model.sl, Model.tr, vset, vsnoc, vpure, Puzz.sl, Puzz.tr, sttl, stapp, stsize, pushB_one, sL0, stset, stfz]
    exact ⟨by omega, rfl, rfl⟩
  rintro k st _ ⟨hk, f4, f0, f3⟩
  have hkl := twK_len h k (by omega)
  by_cases hlt : k < s.length
  · have hk := h k hlt
    have l1 := jn_len _ hk.1.2.1
    have l2 := jn_len _ hk.2.2.1
    have q1 := hk.1.1
    have q2 := hk.2.1
    simp -dsimp -implicitDefEqProofs (disch := first | omega | (simp only [lenr]; done) | (simp only [lenr]; omega)) only [↓amPre, amAll, ↓reduceIte, reduceCtorEq, Nat.reduceEqDiff, Nat.reduceBEq, Nat.reduceAdd, Nat.reduceLeDiff, Nat.reduceSub, Nat.reduceMul, Int.reduceToNat, List.size_toArray, tyF, MM, bu0, ipure, kpure, tpure, sspure, kset, tset, ksnoc, tsnoc, Kind.av, Twist.sl, Twist.tr, Invar.av, stsize, stget, sttl, stapp, stext, tsspure, Model.sl, Model.tr, vset, vsnoc, vpure, Puzz.sl, Puzz.tr, sttl, stapp, stsize, pushB_one, sL0, stset, stfz, f4, f0, f3]
    refine callP_of (formatInts _ (by omega) hk.1.2.1 hk.1.2.2) ?_
    simp -dsimp -implicitDefEqProofs (disch := first | omega | (simp only [lenr]; done) | (simp only [lenr]; omega)) only [↓amPre, amAll, ↓reduceIte, reduceCtorEq, Nat.reduceEqDiff, Nat.reduceBEq, Nat.reduceAdd, Nat.reduceLeDiff, Nat.reduceSub, Nat.reduceMul, Int.reduceToNat, List.size_toArray, tyF, MM, bu0, ipure, kpure, tpure, sspure, kset, tset, ksnoc, tsnoc, Kind.av, Twist.sl, Twist.tr, Invar.av, stsize, stget, sttl, stapp, stext, tsspure, Model.sl, Model.tr, vset, vsnoc, vpure, Puzz.sl, Puzz.tr, sttl, stapp, stsize, pushB_one, sL0, stset, stfz, f4, f0, f3]
    refine callP_of (formatInts _ (by omega) hk.2.2.1 hk.2.2.2) ?_
    simp -dsimp -implicitDefEqProofs (disch := first | omega | (simp only [lenr]; done) | (simp only [lenr]; omega)) only [↓amPre, amAll, ↓reduceIte, reduceCtorEq, Nat.reduceEqDiff, Nat.reduceBEq, Nat.reduceAdd, Nat.reduceLeDiff, Nat.reduceSub, Nat.reduceMul, Int.reduceToNat, List.size_toArray, tyF, MM, bu0, ipure, kpure, tpure, sspure, kset, tset, ksnoc, tsnoc, Kind.av, Twist.sl, Twist.tr, Invar.av, stsize, stget, sttl, stapp, stext, tsspure, Model.sl, Model.tr, vset, vsnoc, vpure, Puzz.sl, Puzz.tr, sttl, stapp, stsize, pushB_one, sL0, stset, stfz, f4, f0, f3]
    refine ⟨hlt, by omega, ?_⟩
    simp [twK, twT, List.append_assoc]
  · have hk : k = s.length := by omega
    subst hk
    simp -dsimp -implicitDefEqProofs (disch := first | omega | (simp only [lenr]; done) | (simp only [lenr]; omega)) only [↓amPre, amAll, ↓reduceIte, reduceCtorEq, Nat.reduceEqDiff, Nat.reduceBEq, Nat.reduceAdd, Nat.reduceLeDiff, Nat.reduceSub, Nat.reduceMul, Int.reduceToNat, List.size_toArray, tyF, MM, bu0, ipure, kpure, tpure, sspure, kset, tset, ksnoc, tsnoc, Kind.av, Twist.sl, Twist.tr, Invar.av, stsize, stget, sttl, stapp, stext, tsspure, Model.sl, Model.tr, vset, vsnoc, vpure, Puzz.sl, Puzz.tr, sttl, stapp, stsize, pushB_one, sL0, stset, stfz, f4, f0, f3]
def psT (ks : List Kind) (s : List Twist) : List UInt8 := if psOk ks s then twK s s.length else []
theorem iFormatPS (ks : List Kind) (s : List Twist) (h1 : ks.length ≤ 1099511627776) (h2 : s.length ≤ 1099511627776) (h3 : ∀ t ∈ s, t.to.length ≤ 1099511627776 ∧ t.by'.length ≤ 1099511627776) : SpecAt Tryd.prog 16 [ksl ks, tsl s] (.st (psT ks s)) := by
  refine spec_of_awp (M := MM) (np := 2) (fz := true) mixed Tryd.func16 rfl rfl (by decide) rfl (Nat.le_refl _) (by decide +kernel) (.inr ⟨rfl, rfl⟩) trivial ?_
  simp -dsimp -implicitDefEqProofs (disch := first | omega | (simp only [lenr]; done) | (simp only [lenr]; omega)) only [↓amPre, amAll, ↓reduceIte, reduceCtorEq, Nat.reduceEqDiff, Nat.reduceBEq, Nat.reduceAdd, Nat.reduceLeDiff, Nat.reduceSub, Nat.reduceMul, Int.reduceToNat, List.size_toArray, tyF, MM, bu0, ipure, kpure, tpure, sspure, kset, tset, ksnoc, tsnoc, Kind.av, Twist.sl, Twist.tr, Invar.av, stsize, stget, sttl, stapp, stext, tsspure, Model.sl, Model.tr, vset, vsnoc, vpure, Puzz.sl, Puzz.tr, sttl, stapp, stsize, pushB_one, sL0, stset, stfz]
  refine callP_of (iIsPieceState ks s h1 h2 h3) ?_
  by_cases c : psOk ks s
  · have hT := ps_okT c
    simp -dsimp -implicitDefEqProofs (disch := first | omega | (simp only [lenr]; done) | (simp only [lenr]; omega)) only [↓amPre, amAll, ↓reduceIte, reduceCtorEq, Nat.reduceEqDiff, Nat.reduceBEq, Nat.reduceAdd, Nat.reduceLeDiff, Nat.reduceSub, Nat.reduceMul, Int.reduceToNat, List.size_toArray, tyF, MM, bu0, ipure, kpure, tpure, sspure, kset, tset, ksnoc, tsnoc, Kind.av, Twist.sl, Twist.tr, Invar.av, stsize, stget, sttl, stapp, stext, tsspure, Model.sl, Model.tr, vset, vsnoc, vpure, Puzz.sl, Puzz.tr, sttl, stapp, stsize, pushB_one, sL0, stset, stfz, c]
    refine callP_of (twistsText s hT.1 hT.2) ?_
    simp -dsimp -implicitDefEqProofs (disch := first | omega | (simp only [lenr]; done) | (simp only [lenr]; omega)) only [↓amPre, amAll, ↓reduceIte, reduceCtorEq, Nat.reduceEqDiff, Nat.reduceBEq, Nat.reduceAdd, Nat.reduceLeDiff, Nat.reduceSub, Nat.reduceMul, Int.reduceToNat, List.size_toArray, tyF, MM, bu0, ipure, kpure, tpure, sspure, kset, tset, ksnoc, tsnoc, Kind.av, Twist.sl, Twist.tr, Invar.av, stsize, stget, sttl, stapp, stext, tsspure, Model.sl, Model.tr, vset, vsnoc, vpure, Puzz.sl, Puzz.tr, sttl, stapp, stsize, pushB_one, sL0, stset, stfz, c, psT]
  · simp -dsimp -implicitDefEqProofs (disch := first | omega | (simp only [lenr]; done) | (simp only [lenr]; omega)) only [↓amPre, amAll, ↓reduceIte, reduceCtorEq, Nat.reduceEqDiff, Nat.reduceBEq, Nat.reduceAdd, Nat.reduceLeDiff, Nat.reduceSub, Nat.reduceMul, Int.reduceToNat, List.size_toArray, tyF, MM, bu0, ipure, kpure, tpure, sspure, kset, tset, ksnoc, tsnoc, Kind.av, Twist.sl, Twist.tr, Invar.av, stsize, stget, sttl, stapp, stext, tsspure, Model.sl, Model.tr, vset, vsnoc, vpure, Puzz.sl, Puzz.tr, sttl, stapp, stsize, pushB_one, sL0, stset, stfz, c, psT]
theorem sFormatPS (ks : List Kind) (s : List Twist) (h1 : ks.length ≤ 1099511627776) (h2 : s.length ≤ 1099511627776) (h3 : ∀ t ∈ s, t.to.length ≤ 1099511627776 ∧ t.by'.length ≤ 1099511627776) : SpecAt Tryd.prog 13 [ksl ks, tsl s] (.st (psT ks s)) := by
  refine spec_of_awp (M := MM) (np := 2) (fz := true) mixed Tryd.func13 rfl rfl (by decide) rfl (Nat.le_refl _) (by decide +kernel) (.inr ⟨rfl, rfl⟩) trivial ?_
  simp -dsimp -implicitDefEqProofs (disch := first | omega | (simp only [lenr]; done) | (simp only [lenr]; omega)) only [↓amPre, amAll, ↓reduceIte, reduceCtorEq, Nat.reduceEqDiff, Nat.reduceBEq, Nat.reduceAdd, Nat.reduceLeDiff, Nat.reduceSub, Nat.reduceMul, Int.reduceToNat, List.size_toArray, tyF, MM, bu0, ipure, kpure, tpure, sspure, kset, tset, ksnoc, tsnoc, Kind.av, Twist.sl, Twist.tr, Invar.av, stsize, stget, sttl, stapp, stext, tsspure, Model.sl, Model.tr, vset, vsnoc, vpure, Puzz.sl, Puzz.tr, sttl, stapp, stsize, pushB_one, sL0, stset, stfz]
  refine callP_of (sIsPieceState ks s h1 h2 h3) ?_
  by_cases c : psOk ks s
  · have hT := ps_okT c
    simp -dsimp -implicitDefEqProofs (disch := first | omega | (simp only [lenr]; done) | (simp only [lenr]; omega)) only [↓amPre, amAll, ↓reduceIte, reduceCtorEq, Nat.reduceEqDiff, Nat.reduceBEq, Nat.reduceAdd, Nat.reduceLeDiff, Nat.reduceSub, Nat.reduceMul, Int.reduceToNat, List.size_toArray, tyF, MM, bu0, ipure, kpure, tpure, sspure, kset, tset, ksnoc, tsnoc, Kind.av, Twist.sl, Twist.tr, Invar.av, stsize, stget, sttl, stapp, stext, tsspure, Model.sl, Model.tr, vset, vsnoc, vpure, Puzz.sl, Puzz.tr, sttl, stapp, stsize, pushB_one, sL0, stset, stfz, c]
    refine callP_of (l23State s hT.1 hT.2) ?_
    simp -dsimp -implicitDefEqProofs (disch := first | omega | (simp only [lenr]; done) | (simp only [lenr]; omega)) only [↓amPre, amAll, ↓reduceIte, reduceCtorEq, Nat.reduceEqDiff, Nat.reduceBEq, Nat.reduceAdd, Nat.reduceLeDiff, Nat.reduceSub, Nat.reduceMul, Int.reduceToNat, List.size_toArray, tyF, MM, bu0, ipure, kpure, tpure, sspure, kset, tset, ksnoc, tsnoc, Kind.av, Twist.sl, Twist.tr, Invar.av, stsize, stget, sttl, stapp, stext, tsspure, Model.sl, Model.tr, vset, vsnoc, vpure, Puzz.sl, Puzz.tr, sttl, stapp, stsize, pushB_one, sL0, stset, stfz, c, psT]
  · simp -dsimp -implicitDefEqProofs (disch := first | omega | (simp only [lenr]; done) | (simp only [lenr]; omega)) only [↓amPre, amAll, ↓reduceIte, reduceCtorEq, Nat.reduceEqDiff, Nat.reduceBEq, Nat.reduceAdd, Nat.reduceLeDiff, Nat.reduceSub, Nat.reduceMul, Int.reduceToNat, List.size_toArray, tyF, MM, bu0, ipure, kpure, tpure, sspure, kset, tset, ksnoc, tsnoc, Kind.av, Twist.sl, Twist.tr, Invar.av, stsize, stget, sttl, stapp, stext, tsspure, Model.sl, Model.tr, vset, vsnoc, vpure, Puzz.sl, Puzz.tr, sttl, stapp, stsize, pushB_one, sL0, stset, stfz, c, psT]
theorem lawFormatPS (ks : List Kind) (s : List Twist) (h1 : ks.length ≤ 9223372036854775807) (h2 : s.length ≤ 9223372036854775807) (h3 : ∀ t ∈ s, t.to.length ≤ 9223372036854775807 ∧ t.by'.length ≤ 9223372036854775807) : SpecAt Tryd.prog 4 [ksl ks, tsl s] (.bl true) := by
  refine spec_of_awp (M := MM) (np := 2) (fz := true) mixed Tryd.func4 rfl rfl (by decide) rfl (Nat.le_refl _) (by decide +kernel) (.inr ⟨rfl, rfl⟩) trivial ?_
  simp -dsimp -implicitDefEqProofs (disch := first | omega | (simp only [lenr]; done) | (simp only [lenr]; omega)) only [↓amPre, amAll, ↓reduceIte, reduceCtorEq, Nat.reduceEqDiff, Nat.reduceBEq, Nat.reduceAdd, Nat.reduceLeDiff, Nat.reduceSub, Nat.reduceMul, Int.reduceToNat, List.size_toArray, tyF, MM, bu0, ipure, kpure, tpure, sspure, kset, tset, ksnoc, tsnoc, Kind.av, Twist.sl, Twist.tr, Invar.av, stsize, stget, sttl, stapp, stext, tsspure, Model.sl, Model.tr, vset, vsnoc, vpure, Puzz.sl, Puzz.tr, sttl, stapp, stsize, pushB_one, sL0, stset, stfz]
  refine callP_of (szKindS ks 1048576 (by unfold intOk; omega) (by omega) h1) ?_
  by_cases c : (1048576 : Int) - ks.length < 0
  · simp -dsimp -implicitDefEqProofs (disch := first | omega | (simp only [lenr]; done) | (simp only [lenr]; omega)) only [↓amPre, amAll, ↓reduceIte, reduceCtorEq, Nat.reduceEqDiff, Nat.reduceBEq, Nat.reduceAdd, Nat.reduceLeDiff, Nat.reduceSub, Nat.reduceMul, Int.reduceToNat, List.size_toArray, tyF, MM, bu0, ipure, kpure, tpure, sspure, kset, tset, ksnoc, tsnoc, Kind.av, Twist.sl, Twist.tr, Invar.av, stsize, stget, sttl, stapp, stext, tsspure, Model.sl, Model.tr, vset, vsnoc, vpure, Puzz.sl, Puzz.tr, sttl, stapp, stsize, pushB_one, sL0, stset, stfz, szR_neg c]
  have hb : ks.length ≤ 1099511627776 := by omega
  have hc : 0 ≤ (1048576 : Int) - ks.length := by omega
  simp -dsimp -implicitDefEqProofs (disch := first | omega | (simp only [lenr]; done) | (simp only [lenr]; omega)) only [↓amPre, amAll, ↓reduceIte, reduceCtorEq, Nat.reduceEqDiff, Nat.reduceBEq, Nat.reduceAdd, Nat.reduceLeDiff, Nat.reduceSub, Nat.reduceMul, Int.reduceToNat, List.size_toArray, tyF, MM, bu0, ipure, kpure, tpure, sspure, kset, tset, ksnoc, tsnoc, Kind.av, Twist.sl, Twist.tr, Invar.av, stsize, stget, sttl, stapp, stext, tsspure, Model.sl, Model.tr, vset, vsnoc, vpure, Puzz.sl, Puzz.tr, sttl, stapp, stsize, pushB_one, sL0, stset, stfz, szR_pos hc]
  refine callP_of (szTwistS s _ hc (by omega) h2 h3) ?_
  by_cases c2 : (1048576 : Int) - ks.length - sizeL s < 0
  · simp -dsimp -implicitDefEqProofs (disch := first | omega | (simp only [lenr]; done) | (simp only [lenr]; omega)) only [↓amPre, amAll, ↓reduceIte, reduceCtorEq, Nat.reduceEqDiff, Nat.reduceBEq, Nat.reduceAdd, Nat.reduceLeDiff, Nat.reduceSub, Nat.reduceMul, Int.reduceToNat, List.size_toArray, tyF, MM, bu0, ipure, kpure, tpure, sspure, kset, tset, ksnoc, tsnoc, Kind.av, Twist.sl, Twist.tr, Invar.av, stsize, stget, sttl, stapp, stext, tsspure, Model.sl, Model.tr, vset, vsnoc, vpure, Puzz.sl, Puzz.tr, sttl, stapp, stsize, pushB_one, sL0, stset, stfz, szR_neg c2]
  have hb2 : s.length ≤ 1099511627776 ∧ ∀ t ∈ s, t.to.length ≤ 1099511627776 ∧ t.by'.length ≤ 1099511627776 := by
    unfold sizeL at c2
    refine ⟨by omega, fun t ht => ?_⟩
    have := cnts_mem ht
    have e : Mk.cnt t = t.to.length + t.by'.length := rfl
    omega
  have hc2 : 0 ≤ (1048576 : Int) - ks.length - sizeL s := by omega
  have hbb : (!(psT ks s == psT ks s)) = false := by simp
  simp -dsimp -implicitDefEqProofs (disch := first | omega | (simp only [lenr]; done) | (simp only [lenr]; omega)) only [↓amPre, amAll, ↓reduceIte, reduceCtorEq, Nat.reduceEqDiff, Nat.reduceBEq, Nat.reduceAdd, Nat.reduceLeDiff, Nat.reduceSub, Nat.reduceMul, Int.reduceToNat, List.size_toArray, tyF, MM, bu0, ipure, kpure, tpure, sspure, kset, tset, ksnoc, tsnoc, Kind.av, Twist.sl, Twist.tr, Invar.av, stsize, stget, sttl, stapp, stext, tsspure, Model.sl, Model.tr, vset, vsnoc, vpure, Puzz.sl, Puzz.tr, sttl, stapp, stsize, pushB_one, sL0, stset, stfz, szR_pos hc2]
  refine callP_of (toKindS ks hb) ?_
  simp -dsimp -implicitDefEqProofs (disch := first | omega | (simp only [lenr]; done) | (simp only [lenr]; omega)) only [↓amPre, amAll, ↓reduceIte, reduceCtorEq, Nat.reduceEqDiff, Nat.reduceBEq, Nat.reduceAdd, Nat.reduceLeDiff, Nat.reduceSub, Nat.reduceMul, Int.reduceToNat, List.size_toArray, tyF, MM, bu0, ipure, kpure, tpure, sspure, kset, tset, ksnoc, tsnoc, Kind.av, Twist.sl, Twist.tr, Invar.av, stsize, stget, sttl, stapp, stext, tsspure, Model.sl, Model.tr, vset, vsnoc, vpure, Puzz.sl, Puzz.tr, sttl, stapp, stsize, pushB_one, sL0, stset, stfz, kfz, tfz]
  refine callP_of (toTwistS s hb2.1 hb2.2) ?_
  simp -dsimp -implicitDefEqProofs (disch := first | omega | (simp only [lenr]; done) | (simp only [lenr]; omega)) only [↓amPre, amAll, ↓reduceIte, reduceCtorEq, Nat.reduceEqDiff, Nat.reduceBEq, Nat.reduceAdd, Nat.reduceLeDiff, Nat.reduceSub, Nat.reduceMul, Int.reduceToNat, List.size_toArray, tyF, MM, bu0, ipure, kpure, tpure, sspure, kset, tset, ksnoc, tsnoc, Kind.av, Twist.sl, Twist.tr, Invar.av, stsize, stget, sttl, stapp, stext, tsspure, Model.sl, Model.tr, vset, vsnoc, vpure, Puzz.sl, Puzz.tr, sttl, stapp, stsize, pushB_one, sL0, stset, stfz, kfz, tfz]
  refine callP_of (sFormatPS ks s hb hb2.1 hb2.2) ?_
  simp -dsimp -implicitDefEqProofs (disch := first | omega | (simp only [lenr]; done) | (simp only [lenr]; omega)) only [↓amPre, amAll, ↓reduceIte, reduceCtorEq, Nat.reduceEqDiff, Nat.reduceBEq, Nat.reduceAdd, Nat.reduceLeDiff, Nat.reduceSub, Nat.reduceMul, Int.reduceToNat, List.size_toArray, tyF, MM, bu0, ipure, kpure, tpure, sspure, kset, tset, ksnoc, tsnoc, Kind.av, Twist.sl, Twist.tr, Invar.av, stsize, stget, sttl, stapp, stext, tsspure, Model.sl, Model.tr, vset, vsnoc, vpure, Puzz.sl, Puzz.tr, sttl, stapp, stsize, pushB_one, sL0, stset, stfz, kfz, tfz]
  refine callP_of (toKindS ks hb) ?_
  simp -dsimp -implicitDefEqProofs (disch := first | omega | (simp only [lenr]; done) | (simp only [lenr]; omega)) only [↓amPre, amAll, ↓reduceIte, reduceCtorEq, Nat.reduceEqDiff, Nat.reduceBEq, Nat.reduceAdd, Nat.reduceLeDiff, Nat.reduceSub, Nat.reduceMul, Int.reduceToNat, List.size_toArray, tyF, MM, bu0, ipure, kpure, tpure, sspure, kset, tset, ksnoc, tsnoc, Kind.av, Twist.sl, Twist.tr, Invar.av, stsize, stget, sttl, stapp, stext, tsspure, Model.sl, Model.tr, vset, vsnoc, vpure, Puzz.sl, Puzz.tr, sttl, stapp, stsize, pushB_one, sL0, stset, stfz, kfz, tfz]
  refine callP_of (toTwistS s hb2.1 hb2.2) ?_
  simp -dsimp -implicitDefEqProofs (disch := first | omega | (simp only [lenr]; done) | (simp only [lenr]; omega)) only [↓amPre, amAll, ↓reduceIte, reduceCtorEq, Nat.reduceEqDiff, Nat.reduceBEq, Nat.reduceAdd, Nat.reduceLeDiff, Nat.reduceSub, Nat.reduceMul, Int.reduceToNat, List.size_toArray, tyF, MM, bu0, ipure, kpure, tpure, sspure, kset, tset, ksnoc, tsnoc, Kind.av, Twist.sl, Twist.tr, Invar.av, stsize, stget, sttl, stapp, stext, tsspure, Model.sl, Model.tr, vset, vsnoc, vpure, Puzz.sl, Puzz.tr, sttl, stapp, stsize, pushB_one, sL0, stset, stfz, kfz, tfz]
  refine callP_of (iFormatPS ks s hb hb2.1 hb2.2) ?_
  simp -dsimp -implicitDefEqProofs (disch := first | omega | (simp only [lenr]; done) | (simp only [lenr]; omega)) only [↓amPre, amAll, ↓reduceIte, reduceCtorEq, Nat.reduceEqDiff, Nat.reduceBEq, Nat.reduceAdd, Nat.reduceLeDiff, Nat.reduceSub, Nat.reduceMul, Int.reduceToNat, List.size_toArray, tyF, MM, bu0, ipure, kpure, tpure, sspure, kset, tset, ksnoc, tsnoc, Kind.av, Twist.sl, Twist.tr, Invar.av, stsize, stget, sttl, stapp, stext, tsspure, Model.sl, Model.tr, vset, vsnoc, vpure, Puzz.sl, Puzz.tr, sttl, stapp, stsize, pushB_one, sL0, stset, stfz, kfz, tfz, hbb]
  refine callP_of (toKindS ks hb) ?_
  simp -dsimp -implicitDefEqProofs (disch := first | omega | (simp only [lenr]; done) | (simp only [lenr]; omega)) only [↓amPre, amAll, ↓reduceIte, reduceCtorEq, Nat.reduceEqDiff, Nat.reduceBEq, Nat.reduceAdd, Nat.reduceLeDiff, Nat.reduceSub, Nat.reduceMul, Int.reduceToNat, List.size_toArray, tyF, MM, bu0, ipure, kpure, tpure, sspure, kset, tset, ksnoc, tsnoc, Kind.av, Twist.sl, Twist.tr, Invar.av, stsize, stget, sttl, stapp, stext, tsspure, Model.sl, Model.tr, vset, vsnoc, vpure, Puzz.sl, Puzz.tr, sttl, stapp, stsize, pushB_one, sL0, stset, stfz, kfz, tfz]
  refine callP_of (eqKindS ks ks hb) ?_
  simp -dsimp -implicitDefEqProofs (disch := first | omega | (simp only [lenr]; done) | (simp only [lenr]; omega)) only [↓amPre, amAll, ↓reduceIte, reduceCtorEq, Nat.reduceEqDiff, Nat.reduceBEq, Nat.reduceAdd, Nat.reduceLeDiff, Nat.reduceSub, Nat.reduceMul, Int.reduceToNat, List.size_toArray, tyF, MM, bu0, ipure, kpure, tpure, sspure, kset, tset, ksnoc, tsnoc, Kind.av, Twist.sl, Twist.tr, Invar.av, stsize, stget, sttl, stapp, stext, tsspure, Model.sl, Model.tr, vset, vsnoc, vpure, Puzz.sl, Puzz.tr, sttl, stapp, stsize, pushB_one, sL0, stset, stfz, kfz, tfz]
  refine callP_of (toTwistS s hb2.1 hb2.2) ?_
  simp -dsimp -implicitDefEqProofs (disch := first | omega | (simp only [lenr]; done) | (simp only [lenr]; omega)) only [↓amPre, amAll, ↓reduceIte, reduceCtorEq, Nat.reduceEqDiff, Nat.reduceBEq, Nat.reduceAdd, Nat.reduceLeDiff, Nat.reduceSub, Nat.reduceMul, Int.reduceToNat, List.size_toArray, tyF, MM, bu0, ipure, kpure, tpure, sspure, kset, tset, ksnoc, tsnoc, Kind.av, Twist.sl, Twist.tr, Invar.av, stsize, stget, sttl, stapp, stext, tsspure, Model.sl, Model.tr, vset, vsnoc, vpure, Puzz.sl, Puzz.tr, sttl, stapp, stsize, pushB_one, sL0, stset, stfz, kfz, tfz]
  refine callP_of (eqTwistS s s hb2.1 hb2.2) ?_
  simp -dsimp -implicitDefEqProofs (disch := first | omega | (simp only [lenr]; done) | (simp only [lenr]; omega)) only [↓amPre, amAll, ↓reduceIte, reduceCtorEq, Nat.reduceEqDiff, Nat.reduceBEq, Nat.reduceAdd, Nat.reduceLeDiff, Nat.reduceSub, Nat.reduceMul, Int.reduceToNat, List.size_toArray, tyF, MM, bu0, ipure, kpure, tpure, sspure, kset, tset, ksnoc, tsnoc, Kind.av, Twist.sl, Twist.tr, Invar.av, stsize, stget, sttl, stapp, stext, tsspure, Model.sl, Model.tr, vset, vsnoc, vpure, Puzz.sl, Puzz.tr, sttl, stapp, stsize, pushB_one, sL0, stset, stfz, kfz, tfz]
end Door
end Go.AM
set_option maxRecDepth 8000
namespace Go.AM
open Go.Proofs
def compR (ks : List Kind) (a b : List Twist) : AV := if psOk ks a ∧ psOk ks b then .tup [ttr (compS ks a b), .bl true] else .tup [.tr 2 [], .bl false]
abbrev smallT (s : List Twist) : Prop := s.length ≤ 1099511627776 ∧ ∀ t ∈ s, t.to.length ≤ 1099511627776 ∧ t.by'.length ≤ 1099511627776
end Go.AM
set_option maxRecDepth 8000
namespace Go.AM
open Go.Proofs
def invR (ks : List Kind) (a : List Twist) : AV := if psOk ks a then .tup [ttr (invS ks a), .bl true] else .tup [.tr 2 [], .bl false]
end Go.AM
set_option maxRecDepth 8000
namespace Go.AM
open Go.Proofs
/-- a piece state that is no greater than what the program makes -/
def fewT (s : List Twist) : Prop := s.length ≤ 3 ∧ (∀ t ∈ s, t.to.length ≤ 20 ∧ t.by'.length ≤ 20) ∧ cnts s ≤ 120
theorem szT_small {s : List Twist} {k : Int} (hk : k ≤ 1048576) (h : 0 ≤ k - sizeL s) : smallT s ∧ cnts s ≤ 1048576 := by
  unfold sizeL at h
  refine ⟨⟨by omega, fun t ht => ?_⟩, by omega⟩
  have := cnts_mem ht
  have e : Mk.cnt t = t.to.length + t.by'.length := rfl
  omega
abbrev wfT (s : List Twist) : Prop := s.length ≤ 9223372036854775807 ∧ ∀ t ∈ s, t.to.length ≤ 9223372036854775807 ∧ t.by'.length ≤ 9223372036854775807
end Go.AM
set_option maxRecDepth 8000
namespace Go.AM
open Go.Proofs
def permR (ks : List Kind) (s : List Twist) : List Int := if psOk ks s then permOf ks s else []
end Go.AM
set_option maxRecDepth 8000
namespace Go.AM
open Go.Proofs
def sumI : List Int → Int
  | [] => 0
  | x :: r => x + sumI r
def twS (k : Kind) (t : Twist) : Int := (sumI t.by').tmod k.o
def twR (ks : List Kind) (s : List Twist) (n : Int) : Int := if psOk ks s ∧ 0 ≤ n ∧ n < ks.length then twS (ks.getD n.toNat default) (s.getD n.toNat default) else -1
end Go.AM
set_option maxRecDepth 8000
namespace Go.AM
open Go.Proofs
def itL (p : List Int) (x k : Nat) : List Int := (List.range k).map fun i => ((itN (fOf p) i x : Nat) : Int)
def cycK (p : List Int) (k : Nat) : List (List Int) := ((List.range k).filter (minI p)).map (orbI p)
def longC (L : List (List Int)) : List (List Int) := L.filter fun l => decide (1 < l.length)
end Go.AM
set_option maxRecDepth 8000
namespace Go.AM
open Go.Proofs
/-- is kind k among a set of kinds? -/
def bitK (set : Int) (k : Nat) : Bool := bitsI .and .i64 (set.fdiv (2 ^ (min k 64))) 1 == 1
def oddS (s : List Twist) (set : Int) : Nat → Nat
  | 0 => 0
  | k + 1 => oddS s set k + if bitK set k = true ∧ sgnI (s.getD k default).to < 0 then 1 else 0
def parS (s : List Twist) (set : Int) : Int := ((oddS s set s.length % 2 : Nat) : Int)
def parR (ks : List Kind) (s : List Twist) (set : Int) : Int := if psOk ks s ∧ 1 ≤ set ∧ set ≤ ((2 ^ ks.length : Nat) : Int) - 1 then parS s set else -1
end Go.AM
set_option maxRecDepth 8000
namespace Go.AM
open Go.Proofs
def invV (ks : List Kind) (s : List Twist) (i : Invar) : Int := if i.k = 1 then twR ks s i.s else if i.k = 2 then parR ks s i.s else -1
end Go.AM

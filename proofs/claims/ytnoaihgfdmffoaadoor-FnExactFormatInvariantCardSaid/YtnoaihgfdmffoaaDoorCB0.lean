/-
  CONTRACTS of functions of the program, and what they compute, by content.
-/
import Derived.Test.YtnoaihgfdmffoaaDoorM2Tool
import Derived.Test.YtnoaihgfdmffoaaDoorM2Facts
import Derived.Test.YtnoaihgfdmffoaaDoorM2SC
import Derived.Lib.ItoaNum
import Derived.Lib.ItoaLen
import Derived.Sort.Grow
import Derived.Deep.Draws
import Derived.Lib.LaidTab
import Derived.Shelf.Strconv.Itoa4
set_option linter.unusedVariables false
set_option linter.unusedSimpArgs false
namespace Go.AM
/-! content: lists of numbers, lists of things -/
abbrev ints (l : List Int) : List AV := l.map AV.i64
abbrev isl (l : List Int) : AV := .sl 1 (l.map AV.i64)
abbrev itr (l : List Int) : AV := .tr 1 (l.map AV.i64)
/-- the types whose lists are looked into (but for numbers) -/
class Thing (α : Type) extends Inhabited α
instance : Thing (List Int) := ⟨⟩
instance : Thing (List (List Int)) := ⟨⟩
theorem gm {α : Type} [Thing α] (f : α → AV) (l : List α) (i : Nat) (h : i < l.length) : (l.map f).getD i .any = f (l.getD i default) := by
  simp [List.getD, h]
theorem gi (l : List Int) (i : Nat) (h : i < l.length) : (l.map AV.i64).getD i .any = .i64 (l.getD i 0) := by
  simp [List.getD, h]
theorem set_map {α : Type} (f : α → AV) (l : List α) (i : Nat) (x : α) : (l.map f).set i (f x) = (l.set i x).map f := by
  rw [List.map_set]
theorem map_snoc {α : Type} (f : α → AV) (l : List α) (x : α) : l.map f ++ [f x] = (l ++ [x]).map f := by simp
theorem map_take {α : Type} (f : α → AV) (l : List α) (n : Nat) : (l.map f).take n = (l.take n).map f := by rw [List.map_take]
theorem map_drop {α : Type} (f : α → AV) (l : List α) (n : Nat) : (l.map f).drop n = (l.drop n).map f := by rw [List.map_drop]
theorem take_map_all {α : Type} (f : α → AV) (l : List α) (n : Nat) (h : n = l.length) : (l.map f).take n = l.map f := by
  rw [List.take_of_length_le]; simp; omega
theorem ints_fz (l : List Int) : (l.map AV.i64).map AV.fz = l.map AV.i64 := by simp [fz_v]
theorem cast1 (j : Nat) : ((j : Int) + 1) = ((j + 1 : Nat) : Int) := by simp
def runI (k : Int) (n : Nat) : List Int := (List.range n).map fun i => k + (i : Nat)
theorem runI_len (k : Int) (n : Nat) : (runI k n).length = n := by simp [runI]
def mixL {α : Type} (a b : List α) (n : Nat) : List α := a.take n ++ b.drop n
def szR (k : Int) (n : Nat) : Int := if k - n < 0 then -1 else k - n
def within (x lo hi : Int) : Bool := decide (lo ≤ x) && decide (x ≤ hi)
theorem getD_set_same {α : Type} (l : List α) (i : Nat) (x d : α) (h : i < l.length) : (l.set i x).getD i d = x := by simp [List.getD, h]
class Mk (α : Type) extends Thing α where
  mrk : Int → α → α
  cnt : α → Nat
instance : Mk (List Int) := { mrk := fun k l => runI k l.length, cnt := List.length }
section
variable {α : Type} [Mk α]
def mks (k : Int) : List α → List α
  | [] => []
  | a :: r => Mk.mrk k a :: mks (k + Mk.cnt a) r
def cnts : List α → Nat
  | [] => 0
  | a :: r => Mk.cnt a + cnts r
theorem mks_len : ∀ (k : Int) (l : List α), (mks k l).length = l.length
  | _, [] => rfl
  | k, a :: r => by rw [mks, List.length_cons, List.length_cons, mks_len]
instance : Mk (List α) := { mrk := mks, cnt := cnts }
end
def sizeL {α : Type} [Mk α] (l : List α) : Nat := l.length + cnts l
theorem hdV (x d : Value) (l : List Value) : (x :: l).headD d = x := rfl
theorem repI (n : Nat) (x : Int) : List.replicate n (AV.v (.int .i64 x)) = (List.replicate n x).map AV.i64 := by simp
theorem bbeq (b : Bool) : (b == b) = true := by cases b <;> rfl
theorem lenr : type_of% (And.intro (@List.length_map.{0,0}) (And.intro (@List.length_set.{0}) (And.intro (@List.length_append.{0}) (And.intro (@List.length_cons.{0}) (And.intro (@List.length_nil.{0}) (And.intro (@List.length_replicate.{0}) (And.intro (@List.length_take.{0}) (And.intro runI_len (And.intro (@mks_len) (And.intro (@List.length_range) (@List.length_drop.{0}))))))))))) :=
  And.intro (@List.length_map.{0,0}) (And.intro (@List.length_set.{0}) (And.intro (@List.length_append.{0}) (And.intro (@List.length_cons.{0}) (And.intro (@List.length_nil.{0}) (And.intro (@List.length_replicate.{0}) (And.intro (@List.length_take.{0}) (And.intro runI_len (And.intro (@mks_len) (And.intro (@List.length_range) (@List.length_drop.{0}))))))))))
theorem bu0 : type_of% (And.intro gi (And.intro @gm (And.intro @set_map (And.intro @map_snoc (And.intro @take_map_all (And.intro @map_take (And.intro @map_drop (And.intro ints_fz (And.intro cast1 (And.intro @getD_set_same (And.intro (@List.set_set.{0}) (And.intro hdV (And.intro repI (And.intro (@List.take_of_length_le.{0}) bbeq)))))))))))))) :=
  And.intro gi (And.intro @gm (And.intro @set_map (And.intro @map_snoc (And.intro @take_map_all (And.intro @map_take (And.intro @map_drop (And.intro ints_fz (And.intro cast1 (And.intro @getD_set_same (And.intro (@List.set_set.{0}) (And.intro hdV (And.intro repI (And.intro (@List.take_of_length_le.{0}) bbeq)))))))))))))
end Go.AM
namespace Go.AM
/-! permutations, plainly -/
def isPerm (p : List Int) : Prop := (1 ≤ p.length ∧ p.length ≤ 20) ∧ (∀ x ∈ p, 0 ≤ x ∧ x < p.length) ∧ p.Nodup
instance (p : List Int) : Decidable (isPerm p) := by unfold isPerm; infer_instance
def maskN : List Nat → Nat
  | [] => 0
  | x :: r => (2 ^ x) ||| maskN r
def mask (p : List Int) : Nat := maskN (p.map Int.toNat)
end Go.AM
namespace Go.AM
/-! kinds, plainly -/
structure Kind where
  c : Int
  o : Int
  deriving DecidableEq
instance : Mk Kind := { default := ⟨0, 0⟩, mrk := fun k _ => ⟨k, k + 1⟩, cnt := fun _ => 2 }
structure Twist where
  to : List Int
  by' : List Int
  deriving DecidableEq
instance : Mk Twist := { default := ⟨[], []⟩, mrk := fun k t => ⟨runI k t.to.length, runI (k + t.to.length) t.by'.length⟩, cnt := fun t => t.to.length + t.by'.length }
def kOk (k : Kind) : Prop := (1 ≤ k.c ∧ k.c ≤ 20) ∧ (1 ≤ k.o ∧ k.o ≤ 20)
instance (k : Kind) : Decidable (kOk k) := by unfold kOk; infer_instance
def facets : List Kind → Int
  | [] => 0
  | k :: r => k.c * k.o + facets r
def kindsOk (l : List Kind) : Prop := (1 ≤ l.length ∧ l.length ≤ 3) ∧ (∀ k ∈ l, kOk k) ∧ facets l ≤ 20
instance (l : List Kind) : Decidable (kindsOk l) := by unfold kindsOk; infer_instance
def fct : Nat → Nat
  | 0 => 1
  | n + 1 => (n + 1) * fct n
def stK (o : Nat) : Nat → Nat
  | 0 => 1
  | j + 1 => stK o j * ((j + 1) * o)
def stC : List Kind → Nat
  | [] => 1
  | k :: r => stK k.o.toNat k.c.toNat * stC r
def twOk (k : Kind) (t : Twist) : Prop := (t.to.length : Int) = k.c ∧ (t.by'.length : Int) = k.c ∧ isPerm t.to ∧ ∀ x ∈ t.by', 0 ≤ x ∧ x < k.o
instance (k : Kind) (t : Twist) : Decidable (twOk k t) := by unfold twOk; infer_instance
def psOk (ks : List Kind) (s : List Twist) : Prop := kindsOk ks ∧ s.length = ks.length ∧ ∀ i, i < ks.length → twOk (ks.getD i default) (s.getD i default)
instance (ks : List Kind) (s : List Twist) : Decidable (psOk ks s) := by unfold psOk; infer_instance
def Kind.av (k : Kind) : AV := .agg [.i64 k.c, .i64 k.o]
abbrev ksl (ks : List Kind) : AV := .sl 2 (ks.map Kind.av)
abbrev ktr (ks : List Kind) : AV := .tr 2 (ks.map Kind.av)
theorem kset (ks : List Kind) (i : Nat) (a b : Int) : (ks.map Kind.av).set i (.agg [.i64 a, .i64 b]) = (ks.set i ⟨a, b⟩).map Kind.av := by rw [List.map_set]; rfl
theorem ksnoc (ks : List Kind) (a b : Int) : ks.map Kind.av ++ [.agg [.i64 a, .i64 b]] = (ks ++ [(⟨a, b⟩ : Kind)]).map Kind.av := by simp [Kind.av]
theorem pureL_map {α : Type} (f : α → AV) (h : ∀ a, (f a).pure = true) : ∀ l : List α, AV.pureL (l.map f) = true
  | [] => rfl
  | a :: r => by rw [List.map_cons, AV.pureL, h, pureL_map f h r]; rfl
theorem ipure (l : List Int) : AV.pureL (l.map AV.i64) = true := pureL_map _ (fun _ => rfl) l
abbrev ssl (l : List (List Int)) : AV := .sl 1 (l.map isl)
abbrev sst (l : List (List Int)) : AV := .tr 1 (l.map itr)
theorem sspure (l : List (List Int)) : AV.pureL (l.map itr) = true := pureL_map _ (fun t => by simp [itr, AV.pure, ipure]) l
theorem kpure (l : List Kind) : AV.pureL (l.map Kind.av) = true := pureL_map _ (fun _ => rfl) l
def Twist.sl (t : Twist) : AV := .agg [isl t.to, isl t.by']
def Twist.tr (t : Twist) : AV := .agg [itr t.to, itr t.by']
abbrev tsl (ts : List Twist) : AV := .sl 2 (ts.map Twist.sl)
abbrev ttr (ts : List Twist) : AV := .tr 2 (ts.map Twist.tr)
theorem tset (ts : List Twist) (i : Nat) (a b : List Int) : (ts.map Twist.tr).set i (.agg [itr a, itr b]) = (ts.set i ⟨a, b⟩).map Twist.tr := by rw [List.map_set]; rfl
theorem tsnoc (ts : List Twist) (a b : List Int) : ts.map Twist.tr ++ [.agg [itr a, itr b]] = (ts ++ [(⟨a, b⟩ : Twist)]).map Twist.tr := by simp [Twist.tr]
theorem tpure (l : List Twist) : AV.pureL (l.map Twist.tr) = true := pureL_map _ (fun t => by simp [Twist.tr, AV.pure, AV.pureL, ipure]) l
structure Invar where
  k : Int
  s : Int
  deriving DecidableEq
instance : Mk Invar := { default := ⟨0, 0⟩, mrk := fun k _ => ⟨k, k + 1⟩, cnt := fun _ => 2 }
def Invar.av (i : Invar) : AV := .agg [.i64 i.k, .i64 i.s]
end Go.AM
namespace Go.AM
/-! texts -/
theorem stsize (l : List UInt8) : ByteArray.size ⟨l.toArray⟩ = l.length := rfl
theorem stget (l : List UInt8) (i : Nat) (d : UInt8) : (ByteArray.mk l.toArray).data.toList.getD i d = l.getD i d := rfl
theorem sttl (l : List UInt8) : (ByteArray.mk l.toArray).toList = l := by simp
theorem stapp (a b : List UInt8) : (ByteArray.mk a.toArray) ++ (ByteArray.mk b.toArray) = ⟨(a ++ b).toArray⟩ := by
  apply ByteArray.ext; simp
theorem stext (l : List UInt8) (i j : Nat) : (ByteArray.mk l.toArray).extract i j = ⟨((l.take j).drop i).toArray⟩ := by
  apply ByteArray.ext; simp [List.drop_take]
def lettersOk (l : List UInt8) : Prop := (∀ b ∈ l, 65 ≤ b.toNat ∧ b.toNat ≤ 90) ∧ l.Nodup
instance (l : List UInt8) : Decidable (lettersOk l) := by unfold lettersOk; infer_instance
def namesOk (l : List UInt8) : Prop := lettersOk l ∧ 1 ≤ l.length ∧ l.length ≤ 8
instance (l : List UInt8) : Decidable (namesOk l) := by unfold namesOk; infer_instance
structure Model where
  ks : List Kind
  nm : List UInt8
  mv : List (List Twist)
  deriving DecidableEq
abbrev tssl (l : List (List Twist)) : AV := .sl 1 (l.map tsl)
abbrev tsst (l : List (List Twist)) : AV := .tr 1 (l.map ttr)
theorem tsspure (l : List (List Twist)) : AV.pureL (l.map ttr) = true := pureL_map _ (fun t => by simp [AV.pure, tpure]) l
def Model.sl (m : Model) : AV := .agg [ksl m.ks, .st m.nm, tssl m.mv]
def Model.tr (m : Model) : AV := .agg [ktr m.ks, .st m.nm, tsst m.mv]
def modelOk (m : Model) : Prop := kindsOk m.ks ∧ namesOk m.nm ∧ m.nm.length = m.mv.length ∧ ∀ s ∈ m.mv, psOk m.ks s
instance (m : Model) : Decidable (modelOk m) := by unfold modelOk; infer_instance
/-! what is done with piece states, plainly -/
def solvedK (k : Kind) : Twist := ⟨runI 0 k.c.toNat, List.replicate k.c.toNat 0⟩
def solvedR (ks : List Kind) : List Twist := if kindsOk ks then ks.map solvedK else []
def compI (p q : List Int) : List Int := p.map fun x => q.getD x.toNat 0
/-- a list's places written one by one: where p says, what v says -/
def scat {α : Type} (base : List α) (p : List Int) (v : Nat → α) : Nat → List α
  | 0 => base
  | i + 1 => (scat base p v i).set (p.getD i 0).toNat (v i)
def invI (p : List Int) : List Int := scat (List.replicate p.length 0) p (fun i => (i : Int)) p.length
def compB (o : Int) (a b : Twist) (i : Nat) : Int := (a.by'.getD i 0 + b.by'.getD (a.to.getD i 0).toNat 0).tmod o
def compT (o : Int) (a b : Twist) : Twist := ⟨compI a.to b.to, (List.range a.to.length).map (compB o a b)⟩
def compS (ks : List Kind) (a b : List Twist) : List Twist := (List.range ks.length).map fun n => compT (ks.getD n default).o (a.getD n default) (b.getD n default)
def invB (o : Int) (a : Twist) (i : Nat) : Int := (o - a.by'.getD i 0).tmod o
def invT (o : Int) (a : Twist) : Twist := ⟨invI a.to, scat (List.replicate a.to.length 0) a.to (invB o a) a.to.length⟩
def invS (ks : List Kind) (a : List Twist) : List Twist := (List.range ks.length).map fun n => invT (ks.getD n default).o (a.getD n default)
def cellL (base o to by' : Int) (j : Nat) : List Int := (List.range j).map fun (i : Nat) => base + to * o + ((i : Int) + by').tmod o
def rowL (base o : Int) (t : Twist) : Nat → List Int
  | 0 => []
  | i + 1 => rowL base o t i ++ cellL base o (t.to.getD i 0) (t.by'.getD i 0) o.toNat
def permL (ks : List Kind) (s : List Twist) : Nat → List Int
  | 0 => []
  | n + 1 => permL ks s n ++ rowL (permL ks s n).length (ks.getD n default).o (s.getD n default) (ks.getD n default).c.toNat
def permOf (ks : List Kind) (s : List Twist) : List Int := permL ks s ks.length
end Go.AM
namespace Go.AM
open Go.Proofs
theorem openInt : Opens Tryd.prog 2 Int (fun n => [AV.i64 n]) intOk := opens_int Tryd.underlying2
theorem openInvariant : Opens Tryd.prog 25 Invar (fun k => [AV.i64 k.k, AV.i64 k.s]) (fun k => intOk k.k ∧ intOk k.s) :=
  Opens.map (opens_struct Tryd.underlying25 (by kernel_rfl)
    (opensFs_cons 2 1 (by rfl) (by kernel_rfl) (by rfl) (by decide) openInt
    (opensFs_cons 2 1 (by rfl) (by kernel_rfl) (by rfl) (by decide) openInt opensFs_nil)))
    (fun p => Invar.mk p.1 p.2.1) (fun _ => rfl) (fun _ h => ⟨h.1, h.2.1⟩)
end Go.AM
set_option maxRecDepth 8000
namespace Go.AM
namespace Door
open Go.Proofs
def MM : FuncId → List Bool := fun _ => []
theorem pushB_one (x : Int) : pushB [x] = ⟨[UInt8.ofNat x.toNat].toArray⟩ := rfl
def twoD (n : Nat) : List UInt8 := Lib.decDigits (n / 10) ++ Lib.decDigits (n % 10)
end Door
end Go.AM
set_option maxRecDepth 8000
namespace Go.AM
namespace Door
open Go.Proofs
/-- the last k digits -/
def sL (n : Nat) : Nat → List UInt8
  | 0 => []
  | k + 1 => UInt8.ofNat (48 + n / 10 ^ k % 10) :: sL n k
theorem sL0 (n : Nat) : sL n 0 = [] := rfl
theorem sLs (n k : Nat) : sL n (k + 1) = UInt8.ofNat (48 + n / 10 ^ k % 10) :: sL n k := rfl
theorem sL_len (n : Nat) : ∀ k, (sL n k).length = k
  | 0 => rfl
  | k + 1 => by rw [sLs, List.length_cons, sL_len n k]
theorem pow_div (n k : Nat) : n / 10 ^ (k + 1) = n / 10 ^ k / 10 := by rw [Nat.pow_succ, Nat.div_div_eq_div_mul]
theorem dd_step (m : Nat) (s : List UInt8) : Lib.decDigits m ++ s = (if m / 10 = 0 then [] else Lib.decDigits (m / 10)) ++ (UInt8.ofNat (48 + m % 10) :: s) := by
  by_cases h : m < 10
  · have : m / 10 = 0 := by omega
    have e : m % 10 = m := by omega
    rw [if_pos this, Lib.decDigits_one h, e]; rfl
  · have : ¬ m / 10 = 0 := by omega
    rw [if_neg this]
    conv => lhs; rw [Lib.decDigits, dif_neg h]
    simp
theorem formatInt_spec (n : Nat) (hn : n ≤ 9223372036854775807) : SpecAt Tryd.prog 11 [.i64 n] (AV.st (Lib.decDigits n)) := by
  have hlt : n < 10 ^ 19 := by omega
  refine spec_of_awp (M := MM) (np := 1) (fz := true) mixed Tryd.func11 rfl rfl (by decide) rfl (Nat.le_refl _) (by decide +kernel) (.inr ⟨rfl, rfl⟩) trivial ?_
  simp -dsimp -implicitDefEqProofs (disch := first | omega | (simp only [lenr]; done) | (simp only [lenr]; omega)) only [↓amPre, amAll, ↓reduceIte, reduceCtorEq, Nat.reduceEqDiff, Nat.reduceBEq, Nat.reduceAdd, Nat.reduceLeDiff, Nat.reduceSub, Nat.reduceMul, Int.reduceToNat, List.size_toArray, tyF, MM, bu0, ipure, kpure, tpure, sspure, kset, tset, ksnoc, tsnoc, Kind.av, Twist.sl, Twist.tr, Invar.av, stsize, stget, sttl, stapp, stext, tsspure, Model.sl, Model.tr, sttl, stapp, stsize, pushB_one, sL0]
  refine awp_loop (fun k st => k ≤ 20 ∧ st.fr 0 = .i64 ((n / 10 ^ k : Nat) : Int) ∧ st.fr 3 = AV.st (sL n k) ∧ st.fr 4 = .bl false ∧ (Lib.decDigits n = (if k ≠ 0 ∧ n / 10 ^ k = 0 then [] else Lib.decDigits (n / 10 ^ k)) ++ sL n k)) (20) ?_ ?_
  · simp -dsimp -implicitDefEqProofs (disch := first | omega | (simp only [lenr]; done) | (simp only [lenr]; omega)) only [↓amPre, amAll, ↓reduceIte, reduceCtorEq, Nat.reduceEqDiff, Nat.reduceBEq, Nat.reduceAdd, Nat.reduceLeDiff, Nat.reduceSub, Nat.reduceMul, Int.reduceToNat, List.size_toArray, tyF, MM, bu0, ipure, kpure, tpure, sspure, kset, tset, ksnoc, tsnoc, Kind.av, Twist.sl, Twist.tr, Invar.av, stsize, stget, sttl, stapp, stext, tsspure, Model.sl, Model.tr, sttl, stapp, stsize, pushB_one, sL0]
    simp [sL]
  rintro k st _ ⟨hk, f0, f3, f4, ek⟩
  have hd := sL_len n k
  have hle : n / 10 ^ k ≤ n := Nat.div_le_self _ _
  by_cases hc : k ≠ 0 ∧ n / 10 ^ k = 0
  · have h0 : ¬ k = 0 := hc.1
    rw [if_pos hc, List.nil_append] at ek
    have hne : (sL n k == []) = false := by rw [← hd] at h0; cases he : sL n k with | nil => rw [he] at h0; exact (h0 rfl).elim | cons a r => rfl
    have hz : bne (((n / 10 ^ k : Nat) : Int)) 0 = false := by rw [hc.2]; rfl
    have hl21 := hd
    simp -dsimp -implicitDefEqProofs (disch := first | omega | (simp only [lenr]; done) | (simp only [lenr]; omega)) only [↓amPre, amAll, ↓reduceIte, reduceCtorEq, Nat.reduceEqDiff, Nat.reduceBEq, Nat.reduceAdd, Nat.reduceLeDiff, Nat.reduceSub, Nat.reduceMul, Int.reduceToNat, List.size_toArray, tyF, MM, bu0, ipure, kpure, tpure, sspure, kset, tset, ksnoc, tsnoc, Kind.av, Twist.sl, Twist.tr, Invar.av, stsize, stget, sttl, stapp, stext, tsspure, Model.sl, Model.tr, sttl, stapp, stsize, pushB_one, sL0, f0, f3, f4, hz, hne, ek]
    skip
  · rw [if_neg hc] at ek
    have hk' : k < 19 := by
      apply Classical.byContradiction
      intro q
      have : n / 10 ^ k = 0 := by
        apply Nat.div_eq_of_lt
        calc n < 10 ^ 19 := hlt
          _ ≤ 10 ^ k := Nat.pow_le_pow_right (by omega) (by omega)
      exact hc ⟨by omega, this⟩
    have hnn : (([] : List UInt8) == []) = true := rfl
    have fin : Lib.decDigits n = (if k + 1 ≠ 0 ∧ n / 10 ^ (k + 1) = 0 then [] else Lib.decDigits (n / 10 ^ (k + 1))) ++ sL n (k + 1) := by
      rw [ek, sLs, pow_div, dd_step]
      by_cases hq : n / 10 ^ k / 10 = 0
      · rw [if_pos hq, if_pos ⟨by omega, hq⟩]
      · rw [if_neg hq, if_neg (fun q => hq q.2)]
    have hs1 : sL n (k + 1) = UInt8.ofNat (48 + n / 10 ^ k % 10) :: sL n k := sLs n k
    have hm' := pow_div n k
    clear ek
    generalize hm : n / 10 ^ k = m at *
    generalize hM : n / 10 ^ (k + 1) = m' at *
    generalize hS : sL n k = S at *
    generalize hS' : sL n (k + 1) = S' at *
    have e1 : ((m : Int)).tdiv 10 = (m' : Int) := by rw [hm']; rfl
    have e2 : ((m : Int)).tmod 10 = ((m % 10 : Nat) : Int) := rfl
    have ew : IntKind.u8.wrap ((48 : Int) + ((m % 10 : Nat) : Int)) = ((48 + m % 10 : Nat) : Int) := by rw [IntWalk.u8_in _ (by omega)]; omega
    have e3 : ((48 + m % 10 : Nat) : Int).toNat = 48 + m % 10 := by omega
    by_cases h0 : k = 0
    · have hSn : S = [] := by rw [h0] at hd; exact List.eq_nil_of_length_eq_zero hd
      subst hSn
      simp -dsimp -implicitDefEqProofs (disch := first | omega | (simp only [lenr]; done) | (simp only [lenr]; omega)) only [↓amPre, amAll, ↓reduceIte, reduceCtorEq, Nat.reduceEqDiff, Nat.reduceBEq, Nat.reduceAdd, Nat.reduceLeDiff, Nat.reduceSub, Nat.reduceMul, Int.reduceToNat, List.size_toArray, tyF, MM, bu0, ipure, kpure, tpure, sspure, kset, tset, ksnoc, tsnoc, Kind.av, Twist.sl, Twist.tr, Invar.av, stsize, stget, sttl, stapp, stext, tsspure, Model.sl, Model.tr, sttl, stapp, stsize, pushB_one, sL0, f0, f3, f4, e1, e2, ew, e3, hnn]
      refine ⟨by omega, by omega, ?_, fin⟩
      rw [hs1]
    · have hne : (S == []) = false := by rw [← hd] at h0; cases S with | nil => exact (h0 rfl).elim | cons a r => rfl
      have hz : bne (m : Int) 0 = true := by
        have : ¬ m = 0 := fun q => hc ⟨h0, q⟩
        simp; omega
      simp -dsimp -implicitDefEqProofs (disch := first | omega | (simp only [lenr]; done) | (simp only [lenr]; omega)) only [↓amPre, amAll, ↓reduceIte, reduceCtorEq, Nat.reduceEqDiff, Nat.reduceBEq, Nat.reduceAdd, Nat.reduceLeDiff, Nat.reduceSub, Nat.reduceMul, Int.reduceToNat, List.size_toArray, tyF, MM, bu0, ipure, kpure, tpure, sspure, kset, tset, ksnoc, tsnoc, Kind.av, Twist.sl, Twist.tr, Invar.av, stsize, stget, sttl, stapp, stext, tsspure, Model.sl, Model.tr, sttl, stapp, stsize, pushB_one, sL0, f0, f3, f4, e1, e2, ew, e3, hne, hz]
      refine ⟨by omega, by omega, ?_, fin⟩
      rw [hs1]
def timeT (n : Nat) : List UInt8 :=
  if n < 6000 then Lib.decDigits (n / 100) ++ [46] ++ twoD (n % 100)
  else Lib.decDigits (n / 6000) ++ [58] ++ twoD (n % 6000 / 100) ++ [46] ++ twoD (n % 100)
def fmtT (x : Int) : List UInt8 := if x = -1 then [68, 78, 70] else if within x 0 360000 = true then timeT x.toNat else []
end Door
end Go.AM
namespace Go.AM
/-! the library's contracts in this machine's words: plain values in, a plain value out -/
theorem Held.same {I : Gh} {w w' : World} (hh : Held I w) (h : ∀ b o x, I b o = some x → w'.heap[b]? = w.heap[b]?) : Held I w' :=
  ⟨fun b o x hx => by
    have h1 := hh.cell b o x hx
    exact ⟨(World.cell?_of_block (w := w) (a := ⟨b, o, none⟩) (h b o x hx)).trans h1.1, h1.2⟩,
   fun b cs hc => by
    obtain ⟨t, f, x, h1, h2⟩ := hh.base b cs hc
    exact ⟨t, f, x, (h b 0 x h2).trans h1, h2⟩⟩
theorem grow_block (w : World) (k : Nat) (os : Array Obj) {b : Nat} (h : b < w.heap.size) : (Sort.grow (w.drewN k) os).heap[b]? = w.heap[b]? := by
  simp only [Sort.grow, World.drewN]
  rw [Array.getElem?_append_left h]
theorem grow_size (w : World) (k : Nat) (os : Array Obj) : w.heap.size ≤ (Sort.grow (w.drewN k) os).heap.size := by
  simp only [Sort.grow, World.drewN, Array.size_append]; omega
theorem tab_of {P : Program} {w : World} {name : String} {k : IntKind} {zs : List Int} {g t : Nat} {f : Nat × Nat} (hg : P.globalNamed name = some g) (h : w.heap[g]? = some (.cells (zs.map fun z => Value.int k z).toArray t f)) : Lib.TabIs P w name k zs := by
  unfold Lib.TabIs World.var?
  rw [hg]
  simp [h]
theorem spec_static {P : Program} {f : FuncId} (hb : HasBody P f) (xs : List Value) (y : Value)
    (hs : ∀ I w, Held I w → Calls P f xs.toArray w fun e w' => e = .returned y ∧ ∃ k os, w' = Sort.grow (w.drewN k) os) : SpecAt P f (xs.map .v) (.v y) := by
  refine ⟨hb, by simp, fun j T hj => by simp at hj, fun I π w vals hI hvs hsep htop => ?_⟩
  obtain rfl : vals = xs.toArray := by
    apply Array.ext
    · simpa using hvs
    · intro j h1 h2
      have h2' : j < (xs.map AV.v).length := by simpa using h2
      have q0 := htop j h2' h1
      have e : (xs.map AV.v)[j] = .v (xs[j]'(by simpa using h2)) := by simp
      rw [e] at q0
      have q := rep_v (ρ := π) (.stat (top_stat q0 rfl))
      rw [q]
      simp
  have hn : ∀ p, ((AV.v y).at p).isNode = false := fun p => rs_at (RepS.v (I := I) y) p
  have hm : ∀ {i T p}, outMem (xs.map AV.v).length [] (.v y) i = some T → (T.at p).isNode = true → False := fun {i T p} h1 h2 => by
    unfold outMem at h1
    split at h1
    · cases h1; rw [hn p] at h2; cases h2
    · simp at h1
  refine (hs I w hI).mono ?_
  rintro e w' ⟨rfl, k, os, rfl⟩
  refine ⟨I, π, y, rfl, hI.same fun b o x hx => grow_block w k os (hI.lt hx), ⟨fun i T p h1 => ?_, fun i T p k h1 h2 _ => (hm h1 h2).elim, fun i T p k i' T' p' k' h1 h2 _ _ _ _ _ => (hm h1 h2).elim⟩, .inr ⟨rfl, .v y⟩, fun j T hT => by simp at hT, ⟨rfl, rfl, rfl, grow_size w k os, fun b h1 _ => grow_block w k os h1⟩, fun _ _ _ => rfl, fun b ⟨i, T, p, k, h1, h2, _⟩ => (hm h1 h2).elim⟩
  cases hnn : (T.at p).isNode with
  | false => exact node_false hnn
  | true => exact (hm h1 hnn).elim
end Go.AM
namespace Go.Proofs
open Go.Shelf
def Tryd.fmtL_ren : Go.Shelf.Ren := ⟨fun | 173 => 18 | 246 => 19 | 283 => 20 | 284 => 21 | 285 => 22 | 286 => 23 | 129 => 25 | 317 => 24 | 318 => 26 | 319 => 27 | 320 => 28 | 337 => 29 | 338 => 30 | n => n, fun | 2 => 2 | 3 => 3 | 9 => 9 | 4 => 4 | 171 => 34 | 0 => 0 | 53 => 35 | 37 => 31 | 5 => 5 | 173 => 38 | 212 => 42 | 51 => 43 | 20 => 20 | 213 => 44 | 46 => 46 | 232 => 49 | 233 => 50 | n => n, fun | 17 => 0 | 18 => 1 | 19 => 2 | n => n⟩
theorem Tryd.fmtL : Go.Proofs.LaysM.n173 Tryd.prog Tryd.fmtL_ren := {
  mixed := by kernel_rfl
  f129 := Tryd.func25.trans (congrArg some (by kernel_rfl))
  f173 := Tryd.func18.trans (congrArg some (by kernel_rfl))
  f246 := Tryd.func19.trans (congrArg some (by kernel_rfl))
  f283 := Tryd.func20.trans (congrArg some (by kernel_rfl))
  f284 := Tryd.func21.trans (congrArg some (by kernel_rfl))
  f285 := Tryd.func22.trans (congrArg some (by kernel_rfl))
  f286 := Tryd.func23.trans (congrArg some (by kernel_rfl))
  f317 := Tryd.func24.trans (congrArg some (by kernel_rfl))
  f318 := Tryd.func26.trans (congrArg some (by kernel_rfl))
  f319 := Tryd.func27.trans (congrArg some (by kernel_rfl))
  f320 := Tryd.func28.trans (congrArg some (by kernel_rfl))
  f337 := Tryd.func29.trans (congrArg some (by kernel_rfl))
  f338 := Tryd.func30.trans (congrArg some (by kernel_rfl))
  t0 := Tryd.underlying0
  a0 := Tryd.isAgg0
  z0 := Tryd.sizeOf0
  v0 := Tryd.zeroValue0
  t2 := Tryd.underlying2
  a2 := Tryd.isAgg2
  z2 := Tryd.sizeOf2
  v2 := Tryd.zeroValue2
  t3 := Tryd.underlying3
  a3 := Tryd.isAgg3
  z3 := Tryd.sizeOf3
  v3 := Tryd.zeroValue3
  t4 := Tryd.underlying4
  a4 := Tryd.isAgg4
  z4 := Tryd.sizeOf4
  v4 := Tryd.zeroValue4
  t5 := Tryd.underlying5
  a5 := Tryd.isAgg5
  z5 := Tryd.sizeOf5
  v5 := Tryd.zeroValue5
  t9 := Tryd.underlying9
  a9 := Tryd.isAgg9
  z9 := Tryd.sizeOf9
  v9 := Tryd.zeroValue9
  t20 := Tryd.underlying20
  a20 := Tryd.isAgg20
  z20 := Tryd.sizeOf20
  v20 := Tryd.zeroValue20
  t37 := Tryd.underlying31
  a37 := Tryd.isAgg31
  z37 := Tryd.sizeOf31
  v37 := Tryd.zeroValue31
  t46 := Tryd.underlying46
  a46 := Tryd.isAgg46
  z46 := Tryd.sizeOf46
  v46 := Tryd.zeroValue46
  t51 := Tryd.underlying43
  a51 := Tryd.isAgg43
  z51 := Tryd.sizeOf43
  v51 := Tryd.zeroValue43
  t53 := Tryd.underlying35
  a53 := Tryd.isAgg35
  z53 := Tryd.sizeOf35
  v53 := Tryd.zeroValue35
  t171 := Tryd.underlying34
  a171 := Tryd.isAgg34
  z171 := Tryd.sizeOf34
  v171 := Tryd.zeroValue34
  t173 := Tryd.underlying38
  a173 := Tryd.isAgg38
  z173 := Tryd.sizeOf38
  v173 := Tryd.zeroValue38
  t212 := Tryd.underlying42
  a212 := Tryd.isAgg42
  z212 := Tryd.sizeOf42
  v212 := Tryd.zeroValue42
  t213 := Tryd.underlying44
  a213 := Tryd.isAgg44
  z213 := Tryd.sizeOf44
  t232 := Tryd.underlying49
  a232 := Tryd.isAgg49
  z232 := Tryd.sizeOf49
  v232 := Tryd.zeroValue49
  t233 := Tryd.underlying50
  a233 := Tryd.isAgg50
  z233 := Tryd.sizeOf50
  v233 := Tryd.zeroValue50
  g17 := by kernel_rfl
  g18 := by kernel_rfl
  g19 := by kernel_rfl
  i0 := by kernel_rfl
  i2 := by kernel_rfl
  i3 := by kernel_rfl
  i4 := by kernel_rfl
  i5 := by kernel_rfl
  i9 := by kernel_rfl
  i20 := by kernel_rfl
  i37 := by kernel_rfl
  i46 := by kernel_rfl
  i51 := by kernel_rfl
  i53 := by kernel_rfl
  i171 := by kernel_rfl
  i173 := by kernel_rfl
  i212 := by kernel_rfl
  i232 := by kernel_rfl
  i233 := by kernel_rfl
  m17 := by kernel_rfl
  m18 := by kernel_rfl
  m19 := by kernel_rfl }
end Go.Proofs
set_option maxRecDepth 8000
namespace Go.AM
namespace Door
open Go.Proofs
theorem pow10_row {I : Gh} {w : World} (h : Held I w) : ∃ t f, w.heap[0]? = some (.cells (Lib.pow10Tab.map fun z => Value.int .u64 z).toArray t f) := by
  obtain ⟨t, f, x, h1, _⟩ := h.base 0 _ (List.mem_singleton.2 rfl)
  exact ⟨t, f, h1⟩
theorem fmtInt_gen (n : Int) (hn : intOk n) : SpecAt Tryd.prog 18 [.i64 n, .i64 10] (AV.st (Lib.itoa n)) :=
  spec_static (f := 18) ⟨_, _, Tryd.func18, rfl, by decide⟩ [.int .i64 n, .int .i64 10] (.string ⟨(Lib.itoa n).toArray⟩) fun I w hI => by
    obtain ⟨t, f, h1⟩ := pow10_row hI
    exact Any.strconv_FormatInt_10 Tryd.fmtL n hn.1 hn.2 w (tab_of (by kernel_rfl) h1)
theorem decimal_spec (n : Int) (hn : intOk n) : SpecAt Tryd.prog 14 [.i64 n] (AV.st (Lib.itoa n)) := by
  refine spec_of_awp (M := MM) (np := 1) (fz := true) mixed Tryd.func14 rfl rfl (by decide) rfl (Nat.le_refl _) (by decide +kernel) (.inr ⟨rfl, rfl⟩) trivial ?_
  simp -dsimp -implicitDefEqProofs (disch := first | omega | (simp only [lenr]; done) | (simp only [lenr]; omega)) only [↓amPre, amAll, ↓reduceIte, reduceCtorEq, Nat.reduceEqDiff, Nat.reduceBEq, Nat.reduceAdd, Nat.reduceLeDiff, Nat.reduceSub, Nat.reduceMul, Int.reduceToNat, List.size_toArray, tyF, MM, bu0, ipure, kpure, tpure, sspure, kset, tset, ksnoc, tsnoc, Kind.av, Twist.sl, Twist.tr, Invar.av, stsize, stget, sttl, stapp, stext, tsspure, Model.sl, Model.tr, sttl, stapp, stsize, pushB_one, sL0]
  refine callP_of (fmtInt_gen n hn) ?_
  simp -dsimp -implicitDefEqProofs (disch := first | omega | (simp only [lenr]; done) | (simp only [lenr]; omega)) only [↓amPre, amAll, ↓reduceIte, reduceCtorEq, Nat.reduceEqDiff, Nat.reduceBEq, Nat.reduceAdd, Nat.reduceLeDiff, Nat.reduceSub, Nat.reduceMul, Int.reduceToNat, List.size_toArray, tyF, MM, bu0, ipure, kpure, tpure, sspure, kset, tset, ksnoc, tsnoc, Kind.av, Twist.sl, Twist.tr, Invar.av, stsize, stget, sttl, stapp, stext, tsspure, Model.sl, Model.tr, sttl, stapp, stsize, pushB_one, sL0]
theorem toInvariant_spec (i : Invar) : SpecAt Tryd.prog 8 [i.av] i.av := by
  refine spec_of_awp (M := MM) (np := 1) (fz := true) mixed Tryd.func8 rfl rfl (by decide) rfl (Nat.le_refl _) (by decide +kernel) (.inr ⟨rfl, rfl⟩) trivial ?_
  simp -dsimp -implicitDefEqProofs (disch := first | omega | (simp only [lenr]; done) | (simp only [lenr]; omega)) only [↓amPre, amAll, ↓reduceIte, reduceCtorEq, Nat.reduceEqDiff, Nat.reduceBEq, Nat.reduceAdd, Nat.reduceLeDiff, Nat.reduceSub, Nat.reduceMul, Int.reduceToNat, List.size_toArray, tyF, MM, bu0, ipure, kpure, tpure, sspure, kset, tset, ksnoc, tsnoc, Kind.av, Twist.sl, Twist.tr, Invar.av, stsize, stget, sttl, stapp, stext, tsspure, Model.sl, Model.tr, sttl, stapp, stsize, pushB_one, sL0, Invar.av]
def invT (i : Invar) : List UInt8 :=
  if i.s < 0 then [] else if i.k = 1 then [116, 119, 105, 115, 116, 32, 115, 117, 109, 32, 111, 102, 32, 107, 105, 110, 100, 32] ++ Lib.itoa i.s else if i.k = 2 then [112, 97, 114, 105, 116, 121, 32, 111, 102, 32, 107, 105, 110, 100, 115, 32] ++ Lib.itoa i.s else []
theorem iFormatInvariant_spec (i : Invar) (hk : intOk i.k) (hs : intOk i.s) : SpecAt Tryd.prog 9 [i.av] (AV.st (invT i)) := by
  have hl := Lib.itoa_length_le i.s hs.1 hs.2
  unfold invT
  by_cases h0 : i.s < 0
  · rw [if_pos h0]
    refine spec_of_awp (M := MM) (np := 1) (fz := true) mixed Tryd.func9 rfl rfl (by decide) rfl (Nat.le_refl _) (by decide +kernel) (.inr ⟨rfl, rfl⟩) trivial ?_
    simp -dsimp -implicitDefEqProofs (disch := first | omega | (simp only [lenr]; done) | (simp only [lenr]; omega)) only [↓amPre, amAll, ↓reduceIte, reduceCtorEq, Nat.reduceEqDiff, Nat.reduceBEq, Nat.reduceAdd, Nat.reduceLeDiff, Nat.reduceSub, Nat.reduceMul, Int.reduceToNat, List.size_toArray, tyF, MM, bu0, ipure, kpure, tpure, sspure, kset, tset, ksnoc, tsnoc, Kind.av, Twist.sl, Twist.tr, Invar.av, stsize, stget, sttl, stapp, stext, tsspure, Model.sl, Model.tr, sttl, stapp, stsize, pushB_one, sL0, Invar.av, h0]
  rw [if_neg h0]
  by_cases h1 : i.k = 1
  · rw [if_pos h1]
    have b1 : (i.k == 1) = true := by simp [h1]
    refine spec_of_awp (M := MM) (np := 1) (fz := true) mixed Tryd.func9 rfl rfl (by decide) rfl (Nat.le_refl _) (by decide +kernel) (.inr ⟨rfl, rfl⟩) trivial ?_
    simp -dsimp -implicitDefEqProofs (disch := first | omega | (simp only [lenr]; done) | (simp only [lenr]; omega)) only [↓amPre, amAll, ↓reduceIte, reduceCtorEq, Nat.reduceEqDiff, Nat.reduceBEq, Nat.reduceAdd, Nat.reduceLeDiff, Nat.reduceSub, Nat.reduceMul, Int.reduceToNat, List.size_toArray, tyF, MM, bu0, ipure, kpure, tpure, sspure, kset, tset, ksnoc, tsnoc, Kind.av, Twist.sl, Twist.tr, Invar.av, stsize, stget, sttl, stapp, stext, tsspure, Model.sl, Model.tr, sttl, stapp, stsize, pushB_one, sL0, Invar.av, h0, b1]
    refine callP_of (decimal_spec i.s hs) ?_
    simp -dsimp -implicitDefEqProofs (disch := first | omega | (simp only [lenr]; done) | (simp only [lenr]; omega)) only [↓amPre, amAll, ↓reduceIte, reduceCtorEq, Nat.reduceEqDiff, Nat.reduceBEq, Nat.reduceAdd, Nat.reduceLeDiff, Nat.reduceSub, Nat.reduceMul, Int.reduceToNat, List.size_toArray, tyF, MM, bu0, ipure, kpure, tpure, sspure, kset, tset, ksnoc, tsnoc, Kind.av, Twist.sl, Twist.tr, Invar.av, stsize, stget, sttl, stapp, stext, tsspure, Model.sl, Model.tr, sttl, stapp, stsize, pushB_one, sL0, Invar.av, h0, b1]
  rw [if_neg h1]
  have b1 : (i.k == 1) = false := by simp [h1]
  by_cases h2 : i.k = 2
  · rw [if_pos h2]
    have b2 : (i.k == 2) = true := by simp [h2]
    refine spec_of_awp (M := MM) (np := 1) (fz := true) mixed Tryd.func9 rfl rfl (by decide) rfl (Nat.le_refl _) (by decide +kernel) (.inr ⟨rfl, rfl⟩) trivial ?_
    simp -dsimp -implicitDefEqProofs (disch := first | omega | (simp only [lenr]; done) | (simp only [lenr]; omega)) only [↓amPre, amAll, ↓reduceIte, reduceCtorEq, Nat.reduceEqDiff, Nat.reduceBEq, Nat.reduceAdd, Nat.reduceLeDiff, Nat.reduceSub, Nat.reduceMul, Int.reduceToNat, List.size_toArray, tyF, MM, bu0, ipure, kpure, tpure, sspure, kset, tset, ksnoc, tsnoc, Kind.av, Twist.sl, Twist.tr, Invar.av, stsize, stget, sttl, stapp, stext, tsspure, Model.sl, Model.tr, sttl, stapp, stsize, pushB_one, sL0, Invar.av, h0, b1, b2]
    refine callP_of (decimal_spec i.s hs) ?_
    simp -dsimp -implicitDefEqProofs (disch := first | omega | (simp only [lenr]; done) | (simp only [lenr]; omega)) only [↓amPre, amAll, ↓reduceIte, reduceCtorEq, Nat.reduceEqDiff, Nat.reduceBEq, Nat.reduceAdd, Nat.reduceLeDiff, Nat.reduceSub, Nat.reduceMul, Int.reduceToNat, List.size_toArray, tyF, MM, bu0, ipure, kpure, tpure, sspure, kset, tset, ksnoc, tsnoc, Kind.av, Twist.sl, Twist.tr, Invar.av, stsize, stget, sttl, stapp, stext, tsspure, Model.sl, Model.tr, sttl, stapp, stsize, pushB_one, sL0, Invar.av, h0, b1, b2]
  rw [if_neg h2]
  have b2 : (i.k == 2) = false := by simp [h2]
  refine spec_of_awp (M := MM) (np := 1) (fz := true) mixed Tryd.func9 rfl rfl (by decide) rfl (Nat.le_refl _) (by decide +kernel) (.inr ⟨rfl, rfl⟩) trivial ?_
  simp -dsimp -implicitDefEqProofs (disch := first | omega | (simp only [lenr]; done) | (simp only [lenr]; omega)) only [↓amPre, amAll, ↓reduceIte, reduceCtorEq, Nat.reduceEqDiff, Nat.reduceBEq, Nat.reduceAdd, Nat.reduceLeDiff, Nat.reduceSub, Nat.reduceMul, Int.reduceToNat, List.size_toArray, tyF, MM, bu0, ipure, kpure, tpure, sspure, kset, tset, ksnoc, tsnoc, Kind.av, Twist.sl, Twist.tr, Invar.av, stsize, stget, sttl, stapp, stext, tsspure, Model.sl, Model.tr, sttl, stapp, stsize, pushB_one, sL0, Invar.av, h0, b1, b2]
theorem formatInt_pos (n : Int) (h0 : ¬ n < 0) (hn : intOk n) : SpecAt Tryd.prog 11 [.i64 n] (AV.st (Lib.itoa n)) := by
  obtain ⟨m, rfl⟩ : ∃ m : Nat, n = m := ⟨n.toNat, by omega⟩
  unfold intOk at hn
  have := formatInt_spec m (by omega)
  rw [Lib.itoa, if_neg h0]
  exact this
theorem sFormatInvariant_spec (i : Invar) (hk : intOk i.k) (hs : intOk i.s) : SpecAt Tryd.prog 7 [i.av] (AV.st (invT i)) := by
  have hl := Lib.itoa_length_le i.s hs.1 hs.2
  unfold invT
  by_cases h0 : i.s < 0
  · rw [if_pos h0]
    refine spec_of_awp (M := MM) (np := 1) (fz := true) mixed Tryd.func7 rfl rfl (by decide) rfl (Nat.le_refl _) (by decide +kernel) (.inr ⟨rfl, rfl⟩) trivial ?_
    simp -dsimp -implicitDefEqProofs (disch := first | omega | (simp only [lenr]; done) | (simp only [lenr]; omega)) only [↓amPre, amAll, ↓reduceIte, reduceCtorEq, Nat.reduceEqDiff, Nat.reduceBEq, Nat.reduceAdd, Nat.reduceLeDiff, Nat.reduceSub, Nat.reduceMul, Int.reduceToNat, List.size_toArray, tyF, MM, bu0, ipure, kpure, tpure, sspure, kset, tset, ksnoc, tsnoc, Kind.av, Twist.sl, Twist.tr, Invar.av, stsize, stget, sttl, stapp, stext, tsspure, Model.sl, Model.tr, sttl, stapp, stsize, pushB_one, sL0, Invar.av, h0]
  rw [if_neg h0]
  by_cases h1 : i.k = 1
  · rw [if_pos h1]
    have b1 : (i.k == 1) = true := by simp [h1]
    refine spec_of_awp (M := MM) (np := 1) (fz := true) mixed Tryd.func7 rfl rfl (by decide) rfl (Nat.le_refl _) (by decide +kernel) (.inr ⟨rfl, rfl⟩) trivial ?_
    simp -dsimp -implicitDefEqProofs (disch := first | omega | (simp only [lenr]; done) | (simp only [lenr]; omega)) only [↓amPre, amAll, ↓reduceIte, reduceCtorEq, Nat.reduceEqDiff, Nat.reduceBEq, Nat.reduceAdd, Nat.reduceLeDiff, Nat.reduceSub, Nat.reduceMul, Int.reduceToNat, List.size_toArray, tyF, MM, bu0, ipure, kpure, tpure, sspure, kset, tset, ksnoc, tsnoc, Kind.av, Twist.sl, Twist.tr, Invar.av, stsize, stget, sttl, stapp, stext, tsspure, Model.sl, Model.tr, sttl, stapp, stsize, pushB_one, sL0, Invar.av, h0, b1]
    refine callP_of (formatInt_pos i.s h0 hs) ?_
    simp -dsimp -implicitDefEqProofs (disch := first | omega | (simp only [lenr]; done) | (simp only [lenr]; omega)) only [↓amPre, amAll, ↓reduceIte, reduceCtorEq, Nat.reduceEqDiff, Nat.reduceBEq, Nat.reduceAdd, Nat.reduceLeDiff, Nat.reduceSub, Nat.reduceMul, Int.reduceToNat, List.size_toArray, tyF, MM, bu0, ipure, kpure, tpure, sspure, kset, tset, ksnoc, tsnoc, Kind.av, Twist.sl, Twist.tr, Invar.av, stsize, stget, sttl, stapp, stext, tsspure, Model.sl, Model.tr, sttl, stapp, stsize, pushB_one, sL0, Invar.av, h0, b1]
  rw [if_neg h1]
  have b1 : (i.k == 1) = false := by simp [h1]
  by_cases h2 : i.k = 2
  · rw [if_pos h2]
    have b2 : (i.k == 2) = true := by simp [h2]
    refine spec_of_awp (M := MM) (np := 1) (fz := true) mixed Tryd.func7 rfl rfl (by decide) rfl (Nat.le_refl _) (by decide +kernel) (.inr ⟨rfl, rfl⟩) trivial ?_
    simp -dsimp -implicitDefEqProofs (disch := first | omega | (simp only [lenr]; done) | (simp only [lenr]; omega)) only [↓amPre, amAll, ↓reduceIte, reduceCtorEq, Nat.reduceEqDiff, Nat.reduceBEq, Nat.reduceAdd, Nat.reduceLeDiff, Nat.reduceSub, Nat.reduceMul, Int.reduceToNat, List.size_toArray, tyF, MM, bu0, ipure, kpure, tpure, sspure, kset, tset, ksnoc, tsnoc, Kind.av, Twist.sl, Twist.tr, Invar.av, stsize, stget, sttl, stapp, stext, tsspure, Model.sl, Model.tr, sttl, stapp, stsize, pushB_one, sL0, Invar.av, h0, b1, b2]
    refine callP_of (formatInt_pos i.s h0 hs) ?_
    simp -dsimp -implicitDefEqProofs (disch := first | omega | (simp only [lenr]; done) | (simp only [lenr]; omega)) only [↓amPre, amAll, ↓reduceIte, reduceCtorEq, Nat.reduceEqDiff, Nat.reduceBEq, Nat.reduceAdd, Nat.reduceLeDiff, Nat.reduceSub, Nat.reduceMul, Int.reduceToNat, List.size_toArray, tyF, MM, bu0, ipure, kpure, tpure, sspure, kset, tset, ksnoc, tsnoc, Kind.av, Twist.sl, Twist.tr, Invar.av, stsize, stget, sttl, stapp, stext, tsspure, Model.sl, Model.tr, sttl, stapp, stsize, pushB_one, sL0, Invar.av, h0, b1, b2]
  rw [if_neg h2]
  have b2 : (i.k == 2) = false := by simp [h2]
  refine spec_of_awp (M := MM) (np := 1) (fz := true) mixed Tryd.func7 rfl rfl (by decide) rfl (Nat.le_refl _) (by decide +kernel) (.inr ⟨rfl, rfl⟩) trivial ?_
  simp -dsimp -implicitDefEqProofs (disch := first | omega | (simp only [lenr]; done) | (simp only [lenr]; omega)) only [↓amPre, amAll, ↓reduceIte, reduceCtorEq, Nat.reduceEqDiff, Nat.reduceBEq, Nat.reduceAdd, Nat.reduceLeDiff, Nat.reduceSub, Nat.reduceMul, Int.reduceToNat, List.size_toArray, tyF, MM, bu0, ipure, kpure, tpure, sspure, kset, tset, ksnoc, tsnoc, Kind.av, Twist.sl, Twist.tr, Invar.av, stsize, stget, sttl, stapp, stext, tsspure, Model.sl, Model.tr, sttl, stapp, stsize, pushB_one, sL0, Invar.av, h0, b1, b2]
theorem lawFormatInvariant (i : Invar) (hk : intOk i.k) (hs : intOk i.s) : SpecAt Tryd.prog 4 [i.av] (.bl true) := by
  refine spec_of_awp (M := MM) (np := 1) (fz := true) mixed Tryd.func4 rfl rfl (by decide) rfl (Nat.le_refl _) (by decide +kernel) (.inr ⟨rfl, rfl⟩) trivial ?_
  simp -dsimp -implicitDefEqProofs (disch := first | omega | (simp only [lenr]; done) | (simp only [lenr]; omega)) only [↓amPre, amAll, ↓reduceIte, reduceCtorEq, Nat.reduceEqDiff, Nat.reduceBEq, Nat.reduceAdd, Nat.reduceLeDiff, Nat.reduceSub, Nat.reduceMul, Int.reduceToNat, List.size_toArray, tyF, MM, bu0, ipure, kpure, tpure, sspure, kset, tset, ksnoc, tsnoc, Kind.av, Twist.sl, Twist.tr, Invar.av, stsize, stget, sttl, stapp, stext, tsspure, Model.sl, Model.tr, sttl, stapp, stsize, pushB_one, sL0, Invar.av]
  refine callP_of (toInvariant_spec i) ?_
  simp -dsimp -implicitDefEqProofs (disch := first | omega | (simp only [lenr]; done) | (simp only [lenr]; omega)) only [↓amPre, amAll, ↓reduceIte, reduceCtorEq, Nat.reduceEqDiff, Nat.reduceBEq, Nat.reduceAdd, Nat.reduceLeDiff, Nat.reduceSub, Nat.reduceMul, Int.reduceToNat, List.size_toArray, tyF, MM, bu0, ipure, kpure, tpure, sspure, kset, tset, ksnoc, tsnoc, Kind.av, Twist.sl, Twist.tr, Invar.av, stsize, stget, sttl, stapp, stext, tsspure, Model.sl, Model.tr, sttl, stapp, stsize, pushB_one, sL0, Invar.av]
  refine callP_of (sFormatInvariant_spec i hk hs) ?_
  simp -dsimp -implicitDefEqProofs (disch := first | omega | (simp only [lenr]; done) | (simp only [lenr]; omega)) only [↓amPre, amAll, ↓reduceIte, reduceCtorEq, Nat.reduceEqDiff, Nat.reduceBEq, Nat.reduceAdd, Nat.reduceLeDiff, Nat.reduceSub, Nat.reduceMul, Int.reduceToNat, List.size_toArray, tyF, MM, bu0, ipure, kpure, tpure, sspure, kset, tset, ksnoc, tsnoc, Kind.av, Twist.sl, Twist.tr, Invar.av, stsize, stget, sttl, stapp, stext, tsspure, Model.sl, Model.tr, sttl, stapp, stsize, pushB_one, sL0, Invar.av]
  refine callP_of (toInvariant_spec i) ?_
  simp -dsimp -implicitDefEqProofs (disch := first | omega | (simp only [lenr]; done) | (simp only [lenr]; omega)) only [↓amPre, amAll, ↓reduceIte, reduceCtorEq, Nat.reduceEqDiff, Nat.reduceBEq, Nat.reduceAdd, Nat.reduceLeDiff, Nat.reduceSub, Nat.reduceMul, Int.reduceToNat, List.size_toArray, tyF, MM, bu0, ipure, kpure, tpure, sspure, kset, tset, ksnoc, tsnoc, Kind.av, Twist.sl, Twist.tr, Invar.av, stsize, stget, sttl, stapp, stext, tsspure, Model.sl, Model.tr, sttl, stapp, stsize, pushB_one, sL0, Invar.av]
  refine callP_of (iFormatInvariant_spec i hk hs) ?_
  have h1 : (!(invT i == invT i)) = false := by simp
  simp -dsimp -implicitDefEqProofs (disch := first | omega | (simp only [lenr]; done) | (simp only [lenr]; omega)) only [↓amPre, amAll, ↓reduceIte, reduceCtorEq, Nat.reduceEqDiff, Nat.reduceBEq, Nat.reduceAdd, Nat.reduceLeDiff, Nat.reduceSub, Nat.reduceMul, Int.reduceToNat, List.size_toArray, tyF, MM, bu0, ipure, kpure, tpure, sspure, kset, tset, ksnoc, tsnoc, Kind.av, Twist.sl, Twist.tr, Invar.av, stsize, stget, sttl, stapp, stext, tsspure, Model.sl, Model.tr, sttl, stapp, stsize, pushB_one, sL0, Invar.av, h1]
end Door
end Go.AM

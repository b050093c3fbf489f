/-
  CONTRACTS of functions of the program, and what they compute, by content.
-/
import Derived.Test.YtbhaeaehgmpfhaaCP1
set_option linter.unusedVariables false
set_option linter.unusedSimpArgs false
namespace Go.AM
/-! kinds, plainly -/
structure Kind where
  c : Int
  o : Int
  deriving DecidableEq
instance : Mk Kind := { default := ⟨0, 0⟩, mrk := fun k _ => ⟨k, k + 1⟩, cnt := fun _ => 2 }
structure Twist where
  to : List Int
  by' : List Int
  deriving DecidableEq
instance : Mk Twist := { default := ⟨[], []⟩, mrk := fun k t => ⟨runI k t.to.length, runI (k + t.to.length) t.by'.length⟩, cnt := fun t => t.to.length + t.by'.length }
def kOk (k : Kind) : Prop := (1 ≤ k.c ∧ k.c ≤ 20) ∧ (1 ≤ k.o ∧ k.o ≤ 20)
instance (k : Kind) : Decidable (kOk k) := by unfold kOk; infer_instance
def facets : List Kind → Int
  | [] => 0
  | k :: r => k.c * k.o + facets r
def kindsOk (l : List Kind) : Prop := (1 ≤ l.length ∧ l.length ≤ 3) ∧ (∀ k ∈ l, kOk k) ∧ facets l ≤ 20
instance (l : List Kind) : Decidable (kindsOk l) := by unfold kindsOk; infer_instance
def fct : Nat → Nat
  | 0 => 1
  | n + 1 => (n + 1) * fct n
def stK (o : Nat) : Nat → Nat
  | 0 => 1
  | j + 1 => stK o j * ((j + 1) * o)
def stC : List Kind → Nat
  | [] => 1
  | k :: r => stK k.o.toNat k.c.toNat * stC r
def twOk (k : Kind) (t : Twist) : Prop := (t.to.length : Int) = k.c ∧ (t.by'.length : Int) = k.c ∧ isPerm t.to ∧ ∀ x ∈ t.by', 0 ≤ x ∧ x < k.o
instance (k : Kind) (t : Twist) : Decidable (twOk k t) := by unfold twOk; infer_instance
def psOk (ks : List Kind) (s : List Twist) : Prop := kindsOk ks ∧ s.length = ks.length ∧ ∀ i, i < ks.length → twOk (ks.getD i default) (s.getD i default)
instance (ks : List Kind) (s : List Twist) : Decidable (psOk ks s) := by unfold psOk; infer_instance
def Kind.av (k : Kind) : AV := .agg [.i64 k.c, .i64 k.o]
abbrev ksl (ks : List Kind) : AV := .sl 2 (ks.map Kind.av)
abbrev ktr (ks : List Kind) : AV := .tr 2 (ks.map Kind.av)
theorem kset (ks : List Kind) (i : Nat) (a b : Int) : (ks.map Kind.av).set i (.agg [.i64 a, .i64 b]) = (ks.set i ⟨a, b⟩).map Kind.av := by rw [List.map_set]; rfl
theorem ksnoc (ks : List Kind) (a b : Int) : ks.map Kind.av ++ [.agg [.i64 a, .i64 b]] = (ks ++ [(⟨a, b⟩ : Kind)]).map Kind.av := by simp [Kind.av]
theorem pureL_map {α : Type} (f : α → AV) (h : ∀ a, (f a).pure = true) : ∀ l : List α, AV.pureL (l.map f) = true
  | [] => rfl
  | a :: r => by rw [List.map_cons, AV.pureL, h, pureL_map f h r]; rfl
theorem ipure (l : List Int) : AV.pureL (l.map AV.i64) = true := pureL_map _ (fun _ => rfl) l
abbrev ssl (l : List (List Int)) : AV := .sl 1 (l.map isl)
abbrev sst (l : List (List Int)) : AV := .tr 1 (l.map itr)
theorem sspure (l : List (List Int)) : AV.pureL (l.map itr) = true := pureL_map _ (fun t => by simp [itr, AV.pure, ipure]) l
theorem ssfz (l : List (List Int)) : (l.map itr).map AV.fz = l.map isl := by
  rw [List.map_map]; exact List.map_congr_left fun a _ => by simp [AV.fz, fzL_map, ints_fz]
theorem kpure (l : List Kind) : AV.pureL (l.map Kind.av) = true := pureL_map _ (fun _ => rfl) l
def Twist.sl (t : Twist) : AV := .agg [isl t.to, isl t.by']
def Twist.tr (t : Twist) : AV := .agg [itr t.to, itr t.by']
abbrev tsl (ts : List Twist) : AV := .sl 2 (ts.map Twist.sl)
abbrev ttr (ts : List Twist) : AV := .tr 2 (ts.map Twist.tr)
theorem tset (ts : List Twist) (i : Nat) (a b : List Int) : (ts.map Twist.tr).set i (.agg [itr a, itr b]) = (ts.set i ⟨a, b⟩).map Twist.tr := by rw [List.map_set]; rfl
theorem tsnoc (ts : List Twist) (a b : List Int) : ts.map Twist.tr ++ [.agg [itr a, itr b]] = (ts ++ [(⟨a, b⟩ : Twist)]).map Twist.tr := by simp [Twist.tr]
theorem tpure (l : List Twist) : AV.pureL (l.map Twist.tr) = true := pureL_map _ (fun t => by simp [Twist.tr, AV.pure, AV.pureL, ipure]) l
structure Invar where
  k : Int
  s : Int
  deriving DecidableEq
instance : Mk Invar := { default := ⟨0, 0⟩, mrk := fun k _ => ⟨k, k + 1⟩, cnt := fun _ => 2 }
def Invar.av (i : Invar) : AV := .agg [.i64 i.k, .i64 i.s]
end Go.AM

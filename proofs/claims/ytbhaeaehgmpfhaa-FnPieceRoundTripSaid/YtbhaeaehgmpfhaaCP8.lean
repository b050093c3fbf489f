/-
  CONTRACTS of functions of the program, and what they compute, by content.
-/
import Derived.Test.YtbhaeaehgmpfhaaCP7
set_option linter.unusedVariables false
set_option linter.unusedSimpArgs false
namespace Go.AM
/-! a permutation of the facelets as a piece state -/
def pAt (p : List Int) (b o i : Nat) : Int := p.getD (b + i * o) 0 - b
def ctL (p : List Int) (b o n : Nat) : List Int := (List.range n).map fun i => (pAt p b o i).tdiv o
def cbL (p : List Int) (b o n : Nat) : List Int := (List.range n).map fun i => (pAt p b o i).tmod o
theorem ctL_succ (p : List Int) (b o n : Nat) : ctL p b o (n + 1) = ctL p b o n ++ [(pAt p b o n).tdiv o] := range_succ_map _ n
theorem cbL_succ (p : List Int) (b o n : Nat) : cbL p b o (n + 1) = cbL p b o n ++ [(pAt p b o n).tmod o] := range_succ_map _ n
theorem ctL_len (p : List Int) (b o n : Nat) : (ctL p b o n).length = n := by simp [ctL]
theorem cbL_len (p : List Int) (b o n : Nat) : (cbL p b o n).length = n := by simp [cbL]
def candT (ks : List Kind) (p : List Int) (k : Nat) : Twist :=
  ⟨ctL p (facets (ks.take k)).toNat (ks.getD k default).o.toNat (ks.getD k default).c.toNat, cbL p (facets (ks.take k)).toNat (ks.getD k default).o.toNat (ks.getD k default).c.toNat⟩
def candL (ks : List Kind) (p : List Int) (n : Nat) : List Twist := (List.range n).map (candT ks p)
theorem candL_succ (ks : List Kind) (p : List Int) (n : Nat) : candL ks p (n + 1) = candL ks p n ++ [candT ks p n] := range_succ_map _ n
theorem candL_len (ks : List Kind) (p : List Int) (n : Nat) : (candL ks p n).length = n := by simp [candL]
theorem candL_get (ks : List Kind) (p : List Int) (n k : Nat) (h : k < n) : (candL ks p n).getD k default = candT ks p k := range_map_get _ _ _ _ h
/-- does a list of images belong to a piece state? -/
def ptpOk (ks : List Kind) (p : List Int) : Prop := kindsOk ks ∧ (p.length : Int) = facets ks ∧ psOk ks (candL ks p ks.length) ∧ permOf ks (candL ks p ks.length) = p
instance (ks : List Kind) (p : List Int) : Decidable (ptpOk ks p) := by unfold ptpOk; infer_instance
def ptpR (ks : List Kind) (p : List Int) : List Twist := if ptpOk ks p then candL ks p ks.length else []
theorem ptp_perm {ks : List Kind} {p : List Int} (h : ptpOk ks p) : isPerm p := by
  have := permOf_perm h.2.2.1
  rwa [h.2.2.2] at this
/-- an image that lies outside its kind spoils the piece state -/
theorem ptp_out {ks : List Kind} {p : List Int} (hk : kindsOk ks) {k : Nat} (hlt : k < ks.length) {c o b : Nat} (hc : (ks.getD k default).c = c) (ho : (ks.getD k default).o = o) (hb : (facets (ks.take k)).toNat = b) {i : Nat} (hi : i < c)
    (hout : ¬ (0 ≤ pAt p b o i ∧ pAt p b o i ≤ (c : Int) * o - 1)) : ¬ ptpOk ks p := by
  intro h
  have ta := tw_get h.2.2.1 hlt
  rw [candL_get _ _ _ _ hlt, candT, hc, ho, hb, Int.toNat_natCast, Int.toNat_natCast] at ta
  have hkk := hk.2.1 _ (mem_getD ks k default hlt)
  have o1 : 1 ≤ o := by have := hkk.2; omega
  have ht : (ctL p b o c).getD i 0 = (pAt p b o i).tdiv o := range_map_get _ _ _ _ hi
  have hb2 : (cbL p b o c).getD i 0 = (pAt p b o i).tmod o := range_map_get _ _ _ _ hi
  have g1 := to_get ta (i := i) (by show i < (ctL p b o c).length; rw [ctL_len]; exact hi)
  have g2 := by_get ta (i := i) (by show i < (cbL p b o c).length; rw [cbL_len]; exact hi)
  have g1' : 0 ≤ (ctL p b o c).getD i 0 ∧ (ctL p b o c).getD i 0 < ((ctL p b o c).length : Int) := g1
  have g2' : 0 ≤ (cbL p b o c).getD i 0 ∧ (cbL p b o c).getD i 0 < (ks.getD k default).o := g2
  rw [ht, ctL_len] at g1'
  rw [hb2, ho] at g2'
  have hd := Int.mul_tdiv_add_tmod (pAt p b o i) o
  generalize (pAt p b o i).tdiv o = q at g1' hd
  generalize (pAt p b o i).tmod o = r at g2' hd
  apply hout
  have h1 : 0 ≤ (o : Int) * q := Int.mul_nonneg (by omega) g1'.1
  have h2 : (o : Int) * q ≤ o * ((c : Int) - 1) := Int.mul_le_mul_of_nonneg_left (by omega) (by omega)
  have h3 : (o : Int) * ((c : Int) - 1) = c * o - o := by rw [Int.mul_sub, Int.mul_comm]; omega
  omega
end Go.AM

/-
  CONTRACTS of functions of the program, and what they compute, by content.
-/
import Derived.Test.YtbhaeaehgmpfhaaCP5
set_option linter.unusedVariables false
set_option linter.unusedSimpArgs false
namespace Go.AM
/-! lists of invariants -/
abbrev vsl (l : List Invar) : AV := .sl 2 (l.map Invar.av)
abbrev vtr (l : List Invar) : AV := .tr 2 (l.map Invar.av)
theorem vset (l : List Invar) (i : Nat) (a b : Int) : (l.map Invar.av).set i (.agg [.i64 a, .i64 b]) = (l.set i ⟨a, b⟩).map Invar.av := by rw [List.map_set]; rfl
theorem vsnoc (l : List Invar) (a b : Int) : l.map Invar.av ++ [.agg [.i64 a, .i64 b]] = (l ++ [(⟨a, b⟩ : Invar)]).map Invar.av := by simp [Invar.av]
theorem vfz (l : List Invar) : (l.map Invar.av).map AV.fz = l.map Invar.av := by
  rw [List.map_map]; exact List.map_congr_left fun a _ => by simp [Invar.av, fz_v, AV.fz, AV.fzL]
theorem vpure (l : List Invar) : AV.pureL (l.map Invar.av) = true := pureL_map _ (fun _ => rfl) l
def twL (k : Nat) : List Invar := (List.range k).map fun (i : Nat) => ⟨1, (i : Int)⟩
def paL (k : Nat) : List Invar := (List.range k).map fun (i : Nat) => ⟨2, ((i + 1 : Nat) : Int)⟩
theorem twL_succ (k : Nat) : twL (k + 1) = twL k ++ [⟨1, (k : Int)⟩] := range_succ_map _ k
theorem paL_succ (k : Nat) : paL (k + 1) = paL k ++ [⟨2, ((k + 1 : Nat) : Int)⟩] := range_succ_map _ k
theorem twL_len (k : Nat) : (twL k).length = k := by simp [twL]
theorem paL_len (k : Nat) : (paL k).length = k := by simp [paL]
theorem filter_snoc {α : Type} (pr : α → Bool) (l : List α) (x : α) : (l ++ [x]).filter pr = if pr x = true then l.filter pr ++ [x] else l.filter pr := by
  rw [List.filter_append]; cases h : pr x <;> simp [h]
end Go.AM

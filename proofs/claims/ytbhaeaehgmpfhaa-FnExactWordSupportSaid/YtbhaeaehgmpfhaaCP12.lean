/-
  CONTRACTS of functions of the program, and what they compute, by content.
-/
import Derived.Test.YtbhaeaehgmpfhaaCP11
import Derived.Test.YtbhaeaehgmpfhaaCP10
import Derived.Test.YtbhaeaehgmpfhaaCG1
set_option linter.unusedVariables false
set_option linter.unusedSimpArgs false
namespace Go.AM
/-! the effect of a word; the points that it moves -/
def letP (mv : List (List Int)) (x : Int) : List Int := if 0 < x then mv.getD (x - 1).toNat default else invI (mv.getD (-x - 1).toNat default)
def effK (n : Int) (mv : List (List Int)) (w : List Int) : Nat → List Int
  | 0 => runI 0 n.toNat
  | k + 1 => compI (effK n mv w k) (letP mv (w.getD k 0))
theorem run_perm {n : Nat} (h1 : 1 ≤ n) (h2 : n ≤ 20) : isPerm (runI 0 n) := by
  refine isPerm_of (by rw [runI_len]; omega) (fun i hi => ?_) (fun i j hi hj e => ?_)
  · rw [runI_len] at hi ⊢
    rw [runI_get 0 n i hi]; omega
  · rw [runI_len] at hi hj
    rw [runI_get 0 n i hi, runI_get 0 n j hj] at e; omega
theorem letP_ok {n : Int} {mv : List (List Int)} (h : genOk n mv) {x : Int} (hx : letOk mv.length x) : moveOk n (letP mv x) := by
  unfold letOk at hx
  unfold letP
  split
  · exact h.2.2 _ (mem_getD mv _ default (by omega))
  · have := h.2.2 _ (mem_getD mv (-x - 1).toNat default (by omega))
    exact ⟨by rw [invI_len]; exact this.1, invI_perm this.2⟩
theorem effK_ok {n : Int} {mv : List (List Int)} {w : List Int} (h : genOk n mv) (hw : wordOk mv.length w) : ∀ k, k ≤ w.length → moveOk n (effK n mv w k)
  | 0, _ => ⟨by rw [effK, runI_len]; have := h.1; omega, run_perm (by have := h.1; omega) (by have := h.1; omega)⟩
  | k + 1, hk => by
    have ih := effK_ok h hw k (by omega)
    have hl := letP_ok h (hw.2 _ (mem_getD w k 0 (by omega)))
    exact ⟨by rw [effK, compI_len]; exact ih.1, compI_perm ih.2 hl.2 (by have := ih.1; have := hl.1; omega)⟩
def movL (p : List Int) (k : Nat) : List Int := ((List.range k).filter fun i => p.getD i 0 != (i : Int)).map fun (i : Nat) => (i : Int)
def imgL (p : List Int) (k : Nat) : List Int := ((List.range k).filter fun i => p.getD i 0 != (i : Int)).map fun i => p.getD i 0
theorem movL_succ (p : List Int) (k : Nat) : movL p (k + 1) = if p.getD k 0 = k then movL p k else movL p k ++ [(k : Int)] := by
  unfold movL
  rw [List.range_succ, List.filter_append, List.map_append]
  by_cases h : p.getD k 0 = k
  · have hb : (p.getD k 0 != (k : Int)) = false := by rw [bne_eq_false_iff_eq]; exact h
    rw [if_pos h, List.filter_cons, hb, if_neg (by decide), List.filter_nil, List.map_nil, List.append_nil]
  · have hb : (p.getD k 0 != (k : Int)) = true := by rw [bne_iff_ne]; exact h
    rw [if_neg h, List.filter_cons, hb, if_pos rfl, List.filter_nil, List.map_cons, List.map_nil]
theorem imgL_succ (p : List Int) (k : Nat) : imgL p (k + 1) = if p.getD k 0 = k then imgL p k else imgL p k ++ [p.getD k 0] := by
  unfold imgL
  rw [List.range_succ, List.filter_append, List.map_append]
  by_cases h : p.getD k 0 = k
  · have hb : (p.getD k 0 != (k : Int)) = false := by rw [bne_eq_false_iff_eq]; exact h
    rw [if_pos h, List.filter_cons, hb, if_neg (by decide), List.filter_nil, List.map_nil, List.append_nil]
  · have hb : (p.getD k 0 != (k : Int)) = true := by rw [bne_iff_ne]; exact h
    rw [if_neg h, List.filter_cons, hb, if_pos rfl, List.filter_nil, List.map_cons, List.map_nil]
theorem movL_le (p : List Int) (k : Nat) : (movL p k).length ≤ k := by
  unfold movL
  rw [List.length_map]
  exact Nat.le_trans (List.length_filter_le _ _) (by simp)
theorem imgL_le (p : List Int) (k : Nat) : (imgL p k).length ≤ k := by
  unfold imgL
  rw [List.length_map]
  exact Nat.le_trans (List.length_filter_le _ _) (by simp)
theorem mem_movL {p : List Int} {k : Nat} {x : Int} : x ∈ movL p k ↔ ∃ i : Nat, i < k ∧ p.getD i 0 ≠ i ∧ x = i := by
  unfold movL
  simp only [List.mem_map, List.mem_filter, List.mem_range, bne_iff_ne, ne_eq]
  constructor
  · rintro ⟨i, ⟨h1, h2⟩, h3⟩; exact ⟨i, h1, h2, h3.symm⟩
  · rintro ⟨i, h1, h2, h3⟩; exact ⟨i, ⟨h1, h2⟩, h3.symm⟩
theorem mem_imgL {p : List Int} {k : Nat} {x : Int} : x ∈ imgL p k ↔ ∃ i : Nat, i < k ∧ p.getD i 0 ≠ i ∧ x = p.getD i 0 := by
  unfold imgL
  simp only [List.mem_map, List.mem_filter, List.mem_range, bne_iff_ne, ne_eq]
  constructor
  · rintro ⟨i, ⟨h1, h2⟩, h3⟩; exact ⟨i, h1, h2, h3.symm⟩
  · rintro ⟨i, h1, h2, h3⟩; exact ⟨i, ⟨h1, h2⟩, h3.symm⟩
theorem movL_lt (p : List Int) (k : Nat) : (movL p k).Pairwise (fun a b => a < b) := by
  unfold movL
  rw [List.pairwise_map]
  exact (List.pairwise_lt_range.filter _).imp fun h => by omega
theorem movL_nodup (p : List Int) (k : Nat) : (movL p k).Nodup := (movL_lt p k).imp fun h => by omega
theorem imgL_nodup {p : List Int} (hp : isPerm p) : (imgL p p.length).Nodup := by
  unfold imgL
  rw [List.Nodup, List.pairwise_map]
  refine List.Pairwise.imp_of_mem ?_ (List.nodup_range.filter _)
  intro a b ha hb hab e
  rw [List.mem_filter, List.mem_range] at ha hb
  exact hab (perm_inj hp ha.1 hb.1 e)
/-- a permutation carries its moved points onto each other: in order, they are the images in order -/
theorem srt_img {p : List Int} (hp : isPerm p) : srt (imgL p p.length) = movL p p.length := by
  have hperm : (srt (imgL p p.length)).Perm (movL p p.length) := by
    refine (List.mergeSort_perm _ _).trans ((List.perm_ext_iff_of_nodup (imgL_nodup hp) (movL_nodup p _)).2 fun x => ?_)
    rw [mem_imgL, mem_movL]
    constructor
    · rintro ⟨i, h1, h2, rfl⟩
      have hg := perm_get hp h1
      refine ⟨(p.getD i 0).toNat, by omega, fun e => ?_, by omega⟩
      have e2 : p.getD (p.getD i 0).toNat 0 = p.getD i 0 := by rw [e]; omega
      have := perm_inj hp (by omega) h1 e2
      omega
    · rintro ⟨i, h1, h2, rfl⟩
      obtain ⟨j, h3, h4⟩ := perm_surj hp i h1
      have hg := perm_get hp h3
      refine ⟨j, h3, fun e => ?_, by omega⟩
      have : i = j := by omega
      subst this
      exact h2 e
  refine List.Perm.eq_of_pairwise (le := fun a b : Int => a ≤ b) (fun a b _ _ h1 h2 => Int.le_antisymm h1 h2) ?_ ((movL_lt p _).imp fun h => by omega) hperm
  have := List.pairwise_mergeSort (le := fun x y : Int => decide (x ≤ y)) (fun a b c h1 h2 => by simp at *; omega) (fun a b => by simp; omega) (imgL p p.length)
  exact this.imp fun h => by simpa using h
end Go.AM

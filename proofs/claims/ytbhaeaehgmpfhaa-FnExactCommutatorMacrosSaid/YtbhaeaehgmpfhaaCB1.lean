/-
  CONTRACTS of functions of the program, and what they compute, by content.
-/
import Derived.Test.YtbhaeaehgmpfhaaCB0
import Derived.Test.YtbhaeaehgmpfhaaM2Facts
import Derived.Shelf.SortM.Plain
import Derived.Shelf.SortM.SortNone
import Derived.Test.YtbhaeaehgmpfhaaM2Tool
set_option linter.unusedVariables false
set_option linter.unusedSimpArgs false
set_option maxRecDepth 8000
namespace Go.AM
open Go.Proofs
def cpL (a b : List Int) (k : Nat) : List Int := (List.range k).map fun i => b.getD (a.getD i 0).toNat 0
theorem cpL_succ (a b : List Int) (k : Nat) : cpL a b (k + 1) = cpL a b k ++ [b.getD (a.getD k 0).toNat 0] := range_succ_map _ k
theorem cpL_len (a b : List Int) (k : Nat) : (cpL a b k).length = k := by simp [cpL]
def cpR (a b : List Int) : AV := if isPerm a ∧ isPerm b ∧ a.length = b.length then .tup [itr (cpL a b a.length), .bl true] else .tup [.tr 1 [], .bl false]
def ivL (p : List Int) : Nat → List Int
  | 0 => List.replicate p.length 0
  | k + 1 => (ivL p k).set (p.getD k 0).toNat (k : Int)
theorem ivL_len (p : List Int) : ∀ k, (ivL p k).length = p.length
  | 0 => by simp [ivL]
  | k + 1 => by rw [ivL, List.length_set, ivL_len p k]
theorem sinverse (p : List Int) (hp : isPerm p) : SpecAt Try.prog 109 [isl p] (itr (ivL p p.length)) := by
  have hl20 := hp.1.2
  refine spec_of_awp (M := MM) (np := 1) (fz := false) mixed Try.func109 rfl rfl (by decide) rfl (Nat.le_refl _) (by decide +kernel) (.inl rfl) (by first | trivial | simp only [sigsOk_nil, sigsOk_some, sigsOk_none, sig_tr, sig_pt, sig_mt, sig_agg, List.map_cons, List.map_nil, sig1_tr, sig1_pt, sig1_v, and_self, true_and, List.length_map, List.length_set]) ?_
  simp -dsimp -implicitDefEqProofs (disch := first | omega | (simp only [lenr]; done) | (simp only [lenr]; omega)) only [↓amPre, amAll, ↓reduceIte, reduceCtorEq, Nat.reduceEqDiff, Nat.reduceBEq, Nat.reduceAdd, Nat.reduceLeDiff, Nat.reduceSub, Nat.reduceMul, Int.reduceToNat, List.size_toArray, tyF, MM, bu0, ipure, kpure, tpure, sspure, kset, tset, ksnoc, tsnoc, Kind.av, Twist.sl, Twist.tr, Invar.av, stsize, stget, sttl, stapp, stext, tsspure, Model.sl, Model.tr, vset, vsnoc, vpure]
  refine awp_loop (fun k st => k ≤ p.length ∧ st.fr 4 = .i64 k ∧ st.fr 0 = isl p ∧ st.fr 3 = .ref 7 [] 1 0 p.length ∧ st.mem 7 = some (itr (ivL p k))) (p.length) ?_ ?_
  · simp -dsimp -implicitDefEqProofs (disch := first | omega | (simp only [lenr]; done) | (simp only [lenr]; omega)) only [↓amPre, amAll, ↓reduceIte, reduceCtorEq, Nat.reduceEqDiff, Nat.reduceBEq, Nat.reduceAdd, Nat.reduceLeDiff, Nat.reduceSub, Nat.reduceMul, Int.reduceToNat, List.size_toArray, tyF, MM, bu0, ipure, kpure, tpure, sspure, kset, tset, ksnoc, tsnoc, Kind.av, Twist.sl, Twist.tr, Invar.av, stsize, stget, sttl, stapp, stext, tsspure, Model.sl, Model.tr, vset, vsnoc, vpure]
    simp [ivL]
  rintro k st _ ⟨hk, f4, f0, f3, m7⟩
  have hil := ivL_len p k
  have his : ivL p (k + 1) = (ivL p k).set (p.getD k 0).toNat (k : Int) := rfl
  by_cases hlt : k < p.length
  · have hx := hp.2.1 _ (mem_getD p k 0 hlt)
    obtain ⟨m, hm⟩ : ∃ m : Nat, p.getD k 0 = m := ⟨_, (Int.toNat_of_nonneg hx.1).symm⟩
    rw [hm, Int.toNat_natCast] at his
    have hmb : m < p.length := by omega
    simp -dsimp -implicitDefEqProofs (disch := first | omega | (simp only [lenr]; done) | (simp only [lenr]; omega)) only [↓amPre, amAll, ↓reduceIte, reduceCtorEq, Nat.reduceEqDiff, Nat.reduceBEq, Nat.reduceAdd, Nat.reduceLeDiff, Nat.reduceSub, Nat.reduceMul, Int.reduceToNat, List.size_toArray, tyF, MM, bu0, ipure, kpure, tpure, sspure, kset, tset, ksnoc, tsnoc, Kind.av, Twist.sl, Twist.tr, Invar.av, stsize, stget, sttl, stapp, stext, tsspure, Model.sl, Model.tr, vset, vsnoc, vpure, f4, f0, f3, m7, hm, hil, ← his]
    repeat' (first | omega | rfl | exact i64c (by omega) | exact vic (by omega) | apply And.intro)
  · have hke : k = p.length := by omega
    subst hke
    simp -dsimp -implicitDefEqProofs (disch := first | omega | (simp only [lenr]; done) | (simp only [lenr]; omega)) only [↓amPre, amAll, ↓reduceIte, reduceCtorEq, Nat.reduceEqDiff, Nat.reduceBEq, Nat.reduceAdd, Nat.reduceLeDiff, Nat.reduceSub, Nat.reduceMul, Int.reduceToNat, List.size_toArray, tyF, MM, bu0, ipure, kpure, tpure, sspure, kset, tset, ksnoc, tsnoc, Kind.av, Twist.sl, Twist.tr, Invar.av, stsize, stget, sttl, stapp, stext, tsspure, Model.sl, Model.tr, vset, vsnoc, vpure, f4, f0, f3, m7, hil]
theorem sInverse (p : List Int) (ha : p.length ≤ 1099511627776) (hp : isPerm p) : SpecAt Try.prog 39 [isl p] (itr (ivL p p.length)) := by
  refine spec_of_awp (M := MM) (np := 1) (fz := false) mixed Try.func39 rfl rfl (by decide) rfl (Nat.le_refl _) (by decide +kernel) (.inl rfl) (by first | trivial | simp only [sigsOk_nil, sigsOk_some, sigsOk_none, sig_tr, sig_pt, sig_mt, sig_agg, List.map_cons, List.map_nil, sig1_tr, sig1_pt, sig1_v, and_self, true_and, List.length_map, List.length_set]) ?_
  simp -dsimp -implicitDefEqProofs (disch := first | omega | (simp only [lenr]; done) | (simp only [lenr]; omega)) only [↓amPre, amAll, ↓reduceIte, reduceCtorEq, Nat.reduceEqDiff, Nat.reduceBEq, Nat.reduceAdd, Nat.reduceLeDiff, Nat.reduceSub, Nat.reduceMul, Int.reduceToNat, List.size_toArray, tyF, MM, bu0, ipure, kpure, tpure, sspure, kset, tset, ksnoc, tsnoc, Kind.av, Twist.sl, Twist.tr, Invar.av, stsize, stget, sttl, stapp, stext, tsspure, Model.sl, Model.tr, vset, vsnoc, vpure]
  refine callP_of (sIsPerm p ha) ?_
  simp -dsimp -implicitDefEqProofs (disch := first | omega | (simp only [lenr]; done) | (simp only [lenr]; omega)) only [↓amPre, amAll, ↓reduceIte, reduceCtorEq, Nat.reduceEqDiff, Nat.reduceBEq, Nat.reduceAdd, Nat.reduceLeDiff, Nat.reduceSub, Nat.reduceMul, Int.reduceToNat, List.size_toArray, tyF, MM, bu0, ipure, kpure, tpure, sspure, kset, tset, ksnoc, tsnoc, Kind.av, Twist.sl, Twist.tr, Invar.av, stsize, stget, sttl, stapp, stext, tsspure, Model.sl, Model.tr, vset, vsnoc, vpure, hp]
  refine callP_of (sinverse p hp) ?_
  have ht : (ivL p p.length).take p.length = ivL p p.length := List.take_of_length_le (by rw [ivL_len]; omega)
  simp -dsimp -implicitDefEqProofs (disch := first | omega | (simp only [lenr]; done) | (simp only [lenr]; omega)) only [↓amPre, amAll, ↓reduceIte, reduceCtorEq, Nat.reduceEqDiff, Nat.reduceBEq, Nat.reduceAdd, Nat.reduceLeDiff, Nat.reduceSub, Nat.reduceMul, Int.reduceToNat, List.size_toArray, tyF, MM, bu0, ipure, kpure, tpure, sspure, kset, tset, ksnoc, tsnoc, Kind.av, Twist.sl, Twist.tr, Invar.av, stsize, stget, sttl, stapp, stext, tsspure, Model.sl, Model.tr, vset, vsnoc, vpure, ivL_len, ht]
end Go.AM
namespace Go.AM
/-! the permutation of a composite, and of an inverse, of piece states -/
theorem isPerm_of {l : List Int} (h1 : 1 ≤ l.length ∧ l.length ≤ 20) (hr : ∀ i, i < l.length → 0 ≤ l.getD i 0 ∧ l.getD i 0 < l.length) (inj : ∀ i j, i < l.length → j < l.length → l.getD i 0 = l.getD j 0 → i = j) : isPerm l := by
  refine ⟨h1, fun x hx => ?_, ?_⟩
  · obtain ⟨i, hi, rfl⟩ := List.getElem_of_mem hx
    have := hr i hi
    rwa [getD_eq _ _ _ hi] at this
  · rw [List.Nodup, List.pairwise_iff_getElem]
    intro i j hi hj hij e
    have := inj i j hi hj (by rw [getD_eq _ _ _ hi, getD_eq _ _ _ hj]; exact e)
    omega
theorem compI_perm {p q : List Int} (hp : isPerm p) (hq : isPerm q) (hl : p.length = q.length) : isPerm (compI p q) := by
  refine isPerm_of (by rw [compI_len]; exact hp.1) (fun i hi => ?_) (fun i j hi hj e => ?_)
  · rw [compI_len] at hi ⊢
    rw [compI_get _ _ _ hi]
    have h1 := perm_get hp hi
    have h2 := perm_get hq (show (p.getD i 0).toNat < q.length by omega)
    omega
  · rw [compI_len] at hi hj
    rw [compI_get _ _ _ hi, compI_get _ _ _ hj] at e
    have h1 := perm_get hp hi
    have h2 := perm_get hp hj
    have := perm_inj hq (by omega) (by omega) e
    exact perm_inj hp hi hj (by omega)
theorem invI_get {p : List Int} (hp : isPerm p) {i : Nat} (hi : i < p.length) : (invI p).getD (p.getD i 0).toNat 0 = i := by
  rw [invI, scat_get _ p _ 0 hp (by simp) _ (Nat.le_refl _) i hi]
theorem invI_perm {p : List Int} (hp : isPerm p) : isPerm (invI p) := by
  refine isPerm_of (by rw [invI_len]; exact hp.1) (fun j hj => ?_) (fun j j' hj hj' e => ?_)
  · rw [invI_len] at hj ⊢
    obtain ⟨i, hi, rfl⟩ := perm_surj hp j hj
    rw [invI_get hp hi]; omega
  · rw [invI_len] at hj hj'
    obtain ⟨i, hi, rfl⟩ := perm_surj hp j hj
    obtain ⟨i', hi', rfl⟩ := perm_surj hp j' hj'
    rw [invI_get hp hi, invI_get hp hi'] at e
    have : i = i' := by omega
    rw [this]
def bas (ks : List Kind) (n : Nat) : Nat := (facets (ks.take n)).toNat
end Go.AM
namespace Go.AM
/-! the effect of a word; the points that it moves -/
def letP (mv : List (List Int)) (x : Int) : List Int := if 0 < x then mv.getD (x - 1).toNat default else invI (mv.getD (-x - 1).toNat default)
def effK (n : Int) (mv : List (List Int)) (w : List Int) : Nat → List Int
  | 0 => runI 0 n.toNat
  | k + 1 => compI (effK n mv w k) (letP mv (w.getD k 0))
theorem run_perm {n : Nat} (h1 : 1 ≤ n) (h2 : n ≤ 20) : isPerm (runI 0 n) := by
  refine isPerm_of (by rw [runI_len]; omega) (fun i hi => ?_) (fun i j hi hj e => ?_)
  · rw [runI_len] at hi ⊢
    rw [runI_get 0 n i hi]; omega
  · rw [runI_len] at hi hj
    rw [runI_get 0 n i hi, runI_get 0 n j hj] at e; omega
theorem letP_ok {n : Int} {mv : List (List Int)} (h : genOk n mv) {x : Int} (hx : letOk mv.length x) : moveOk n (letP mv x) := by
  unfold letOk at hx
  unfold letP
  split
  · exact h.2.2 _ (mem_getD mv _ default (by omega))
  · have := h.2.2 _ (mem_getD mv (-x - 1).toNat default (by omega))
    exact ⟨by rw [invI_len]; exact this.1, invI_perm this.2⟩
theorem effK_ok {n : Int} {mv : List (List Int)} {w : List Int} (h : genOk n mv) (hw : wordOk mv.length w) : ∀ k, k ≤ w.length → moveOk n (effK n mv w k)
  | 0, _ => ⟨by rw [effK, runI_len]; have := h.1; omega, run_perm (by have := h.1; omega) (by have := h.1; omega)⟩
  | k + 1, hk => by
    have ih := effK_ok h hw k (by omega)
    have hl := letP_ok h (hw.2 _ (mem_getD w k 0 (by omega)))
    exact ⟨by rw [effK, compI_len]; exact ih.1, compI_perm ih.2 hl.2 (by have := ih.1; have := hl.1; omega)⟩
def movL (p : List Int) (k : Nat) : List Int := ((List.range k).filter fun i => p.getD i 0 != (i : Int)).map fun (i : Nat) => (i : Int)
def imgL (p : List Int) (k : Nat) : List Int := ((List.range k).filter fun i => p.getD i 0 != (i : Int)).map fun i => p.getD i 0
theorem movL_succ (p : List Int) (k : Nat) : movL p (k + 1) = if p.getD k 0 = k then movL p k else movL p k ++ [(k : Int)] := by
  unfold movL
  rw [List.range_succ, List.filter_append, List.map_append]
  by_cases h : p.getD k 0 = k
  · have hb : (p.getD k 0 != (k : Int)) = false := by rw [bne_eq_false_iff_eq]; exact h
    rw [if_pos h, List.filter_cons, hb, if_neg (by decide), List.filter_nil, List.map_nil, List.append_nil]
  · have hb : (p.getD k 0 != (k : Int)) = true := by rw [bne_iff_ne]; exact h
    rw [if_neg h, List.filter_cons, hb, if_pos rfl, List.filter_nil, List.map_cons, List.map_nil]
theorem imgL_succ (p : List Int) (k : Nat) : imgL p (k + 1) = if p.getD k 0 = k then imgL p k else imgL p k ++ [p.getD k 0] := by
  unfold imgL
  rw [List.range_succ, List.filter_append, List.map_append]
  by_cases h : p.getD k 0 = k
  · have hb : (p.getD k 0 != (k : Int)) = false := by rw [bne_eq_false_iff_eq]; exact h
    rw [if_pos h, List.filter_cons, hb, if_neg (by decide), List.filter_nil, List.map_nil, List.append_nil]
  · have hb : (p.getD k 0 != (k : Int)) = true := by rw [bne_iff_ne]; exact h
    rw [if_neg h, List.filter_cons, hb, if_pos rfl, List.filter_nil, List.map_cons, List.map_nil]
theorem movL_le (p : List Int) (k : Nat) : (movL p k).length ≤ k := by
  unfold movL
  rw [List.length_map]
  exact Nat.le_trans (List.length_filter_le _ _) (by simp)
theorem imgL_le (p : List Int) (k : Nat) : (imgL p k).length ≤ k := by
  unfold imgL
  rw [List.length_map]
  exact Nat.le_trans (List.length_filter_le _ _) (by simp)
theorem mem_movL {p : List Int} {k : Nat} {x : Int} : x ∈ movL p k ↔ ∃ i : Nat, i < k ∧ p.getD i 0 ≠ i ∧ x = i := by
  unfold movL
  simp only [List.mem_map, List.mem_filter, List.mem_range, bne_iff_ne, ne_eq]
  constructor
  · rintro ⟨i, ⟨h1, h2⟩, h3⟩; exact ⟨i, h1, h2, h3.symm⟩
  · rintro ⟨i, h1, h2, h3⟩; exact ⟨i, ⟨h1, h2⟩, h3.symm⟩
theorem mem_imgL {p : List Int} {k : Nat} {x : Int} : x ∈ imgL p k ↔ ∃ i : Nat, i < k ∧ p.getD i 0 ≠ i ∧ x = p.getD i 0 := by
  unfold imgL
  simp only [List.mem_map, List.mem_filter, List.mem_range, bne_iff_ne, ne_eq]
  constructor
  · rintro ⟨i, ⟨h1, h2⟩, h3⟩; exact ⟨i, h1, h2, h3.symm⟩
  · rintro ⟨i, h1, h2, h3⟩; exact ⟨i, ⟨h1, h2⟩, h3.symm⟩
theorem movL_lt (p : List Int) (k : Nat) : (movL p k).Pairwise (fun a b => a < b) := by
  unfold movL
  rw [List.pairwise_map]
  exact (List.pairwise_lt_range.filter _).imp fun h => by omega
theorem movL_nodup (p : List Int) (k : Nat) : (movL p k).Nodup := (movL_lt p k).imp fun h => by omega
theorem imgL_nodup {p : List Int} (hp : isPerm p) : (imgL p p.length).Nodup := by
  unfold imgL
  rw [List.Nodup, List.pairwise_map]
  refine List.Pairwise.imp_of_mem ?_ (List.nodup_range.filter _)
  intro a b ha hb hab e
  rw [List.mem_filter, List.mem_range] at ha hb
  exact hab (perm_inj hp ha.1 hb.1 e)
theorem srt_img {p : List Int} (hp : isPerm p) : srt (imgL p p.length) = movL p p.length := by
  have hperm : (srt (imgL p p.length)).Perm (movL p p.length) := by
    refine (List.mergeSort_perm _ _).trans ((List.perm_ext_iff_of_nodup (imgL_nodup hp) (movL_nodup p _)).2 fun x => ?_)
    rw [mem_imgL, mem_movL]
    constructor
    · rintro ⟨i, h1, h2, rfl⟩
      have hg := perm_get hp h1
      refine ⟨(p.getD i 0).toNat, by omega, fun e => ?_, by omega⟩
      have e2 : p.getD (p.getD i 0).toNat 0 = p.getD i 0 := by rw [e]; omega
      have := perm_inj hp (by omega) h1 e2
      omega
    · rintro ⟨i, h1, h2, rfl⟩
      obtain ⟨j, h3, h4⟩ := perm_surj hp i h1
      have hg := perm_get hp h3
      refine ⟨j, h3, fun e => ?_, by omega⟩
      have : i = j := by omega
      subst this
      exact h2 e
  refine List.Perm.eq_of_pairwise (le := fun a b : Int => a ≤ b) (fun a b _ _ h1 h2 => Int.le_antisymm h1 h2) ?_ ((movL_lt p _).imp fun h => by omega) hperm
  have := List.pairwise_mergeSort (le := fun x y : Int => decide (x ≤ y)) (fun a b c h1 h2 => by simp at *; omega) (fun a b => by simp; omega) (imgL p p.length)
  exact this.imp fun h => by simpa using h
end Go.AM
namespace Go.Proofs
open Go.Shelf
def Try.sortL_ren : Go.Shelf.Ren := ⟨fun | 5 => 183 | 8 => 207 | 7 => 206 | 19 => 224 | 20 => 225 | 10 => 215 | 11 => 216 | 12 => 217 | 13 => 218 | 14 => 219 | 15 => 220 | 16 => 221 | 17 => 222 | 18 => 223 | 30 => 230 | 31 => 231 | 32 => 232 | 33 => 233 | 34 => 234 | 35 => 235 | 40 => 238 | n => n, fun | 23 => 25 | 25 => 2 | 3 => 3 | 32 => 159 | 22 => 25 | 0 => 0 | 44 => 205 | 46 => 207 | 4 => 4 | 36 => 198 | 35 => 197 | 41 => 202 | 5 => 5 | 9 => 9 | 53 => 208 | 57 => 212 | 63 => 214 | 64 => 215 | n => n, fun | n => n⟩
theorem Try.sortL : Go.Proofs.SlLaysM.n5 Try.prog Try.sortL_ren := {
  mixed := by kernel_rfl
  f5 := ⟨Try.f183.name, by decide, Try.func183.trans (congrArg some (by kernel_rfl))⟩
  f7 := ⟨Try.f206.name, by decide, Try.func206.trans (congrArg some (by kernel_rfl))⟩
  f8 := Try.func207.trans (congrArg some (by kernel_rfl))
  f10 := ⟨Try.f215.name, by decide, Try.func215.trans (congrArg some (by kernel_rfl))⟩
  f11 := ⟨Try.f216.name, by decide, Try.func216.trans (congrArg some (by kernel_rfl))⟩
  f12 := ⟨Try.f217.name, by decide, Try.func217.trans (congrArg some (by kernel_rfl))⟩
  f13 := ⟨Try.f218.name, by decide, Try.func218.trans (congrArg some (by kernel_rfl))⟩
  f14 := ⟨Try.f219.name, by decide, Try.func219.trans (congrArg some (by kernel_rfl))⟩
  f15 := ⟨Try.f220.name, by decide, Try.func220.trans (congrArg some (by kernel_rfl))⟩
  f16 := ⟨Try.f221.name, by decide, Try.func221.trans (congrArg some (by kernel_rfl))⟩
  f17 := ⟨Try.f222.name, by decide, Try.func222.trans (congrArg some (by kernel_rfl))⟩
  f18 := ⟨Try.f223.name, by decide, Try.func223.trans (congrArg some (by kernel_rfl))⟩
  f19 := Try.func224.trans (congrArg some (by kernel_rfl))
  f20 := Try.func225.trans (congrArg some (by kernel_rfl))
  f30 := ⟨Try.f230.name, by decide, Try.func230.trans (congrArg some (by kernel_rfl))⟩
  f31 := Try.func231.trans (congrArg some (by kernel_rfl))
  f32 := Try.func232.trans (congrArg some (by kernel_rfl))
  f33 := ⟨Try.f233.name, by decide, Try.func233.trans (congrArg some (by kernel_rfl))⟩
  f34 := ⟨Try.f234.name, by decide, Try.func234.trans (congrArg some (by kernel_rfl))⟩
  f35 := ⟨Try.f235.name, by decide, Try.func235.trans (congrArg some (by kernel_rfl))⟩
  f40 := ⟨Try.f238.name, by decide, Try.func238.trans (congrArg some (by kernel_rfl))⟩
  t0 := Try.underlying0
  a0 := Try.isAgg0
  z0 := Try.sizeOf0
  v0 := Try.zeroValue0
  t3 := Try.underlying3
  a3 := Try.isAgg3
  z3 := Try.sizeOf3
  v3 := Try.zeroValue3
  t4 := Try.underlying4
  a4 := Try.isAgg4
  z4 := Try.sizeOf4
  v4 := Try.zeroValue4
  t5 := Try.underlying5
  a5 := Try.isAgg5
  z5 := Try.sizeOf5
  v5 := Try.zeroValue5
  t9 := Try.underlying9
  a9 := Try.isAgg9
  z9 := Try.sizeOf9
  v9 := Try.zeroValue9
  t22 := Try.underlying25
  a22 := Try.isAgg25
  z22 := Try.sizeOf25
  v22 := Try.zeroValue25
  t23 := Try.underlying25
  a23 := Try.isAgg25
  z23 := Try.sizeOf25
  v23 := Try.zeroValue25
  t25 := Try.underlying2
  a25 := Try.isAgg2
  z25 := Try.sizeOf2
  v25 := Try.zeroValue2
  t32 := Try.underlying159
  a32 := Try.isAgg159
  z32 := Try.sizeOf159
  v32 := Try.zeroValue159
  t35 := Try.underlying197
  a35 := Try.isAgg197
  z35 := Try.sizeOf197
  v35 := Try.zeroValue197
  t36 := Try.underlying198
  a36 := Try.isAgg198
  z36 := Try.sizeOf198
  v36 := Try.zeroValue198
  t41 := Try.underlying202
  a41 := Try.isAgg202
  z41 := Try.sizeOf202
  v41 := Try.zeroValue202
  t44 := Try.underlying205
  a44 := Try.isAgg205
  z44 := Try.sizeOf205
  v44 := Try.zeroValue205
  t46 := Try.underlying207
  a46 := Try.isAgg207
  z46 := Try.sizeOf207
  v46 := Try.zeroValue207
  t53 := Try.underlying208
  a53 := Try.isAgg208
  z53 := Try.sizeOf208
  v53 := Try.zeroValue208
  t57 := Try.underlying212
  a57 := Try.isAgg212
  z57 := Try.sizeOf212
  v57 := Try.zeroValue212
  t63 := Try.underlying214
  a63 := Try.isAgg214
  z63 := Try.sizeOf214
  v63 := Try.zeroValue214
  t64 := Try.underlying215
  a64 := Try.isAgg215
  z64 := Try.sizeOf215
  v64 := Try.zeroValue215 }
end Go.Proofs
namespace Go.AM
open Go.Proofs
theorem sortI (l : List Int) (hl : l.length ≤ 1099511627776) : SpecX Try.prog 183 [itr l] [some (itr (srt l))] (.tup []) :=
  spec_sort ⟨_, _, Try.func183, rfl, by decide⟩ (fun blk off cap zs w hH hblk hsz => AnyM.slices_Sort_int Try.sortL blk off cap zs w hH hblk hsz) (fun p cap w => AnyM.slices_Sort_int_none Try.sortL p cap w) l (by omega)
end Go.AM
set_option maxRecDepth 8000
namespace Go.AM
open Go.Proofs
theorem sIdentity (n : Nat) (hn : n ≤ 20) : SpecAt Try.prog 111 [.i64 n] (itr (runI 0 n)) := by
  refine spec_of_awp (M := MM) (np := 1) (fz := false) mixed Try.func111 rfl rfl (by decide) rfl (Nat.le_refl _) (by decide +kernel) (.inl rfl) (by first | trivial | simp only [sigsOk_nil, sigsOk_some, sigsOk_none, sig_tr, sig_pt, sig_mt, sig_agg, List.map_cons, List.map_nil, sig1_tr, sig1_pt, sig1_v, and_self, true_and, List.length_map, List.length_set]) ?_
  simp -dsimp -implicitDefEqProofs (disch := first | omega | (simp only [lenr]; done) | (simp only [lenr]; omega)) only [↓amPre, amAll, ↓reduceIte, reduceCtorEq, Nat.reduceEqDiff, Nat.reduceBEq, Nat.reduceAdd, Nat.reduceLeDiff, Nat.reduceSub, Nat.reduceMul, Int.reduceToNat, List.size_toArray, tyF, MM, bu0, ipure, kpure, tpure, sspure, kset, tset, ksnoc, tsnoc, Kind.av, Twist.sl, Twist.tr, Invar.av, stsize, stget, sttl, stapp, stext, tsspure, Model.sl, Model.tr, vset, vsnoc, vpure, Puzz.sl, Puzz.tr]
  refine awp_loop (fun k st => k ≤ n ∧ st.fr 4 = .i64 k ∧ st.fr 0 = .i64 n ∧ ((k = 0 ∧ st.fr 3 = .ref 5 [] 1 0 0 ∧ st.mem 5 = some (.tr 1 [])) ∨ (0 < k ∧ st.fr 3 = .ref 14 [] 1 0 k ∧ st.mem 14 = some (itr (runI 0 k))))) (n) ?_ ?_
  · simp -dsimp -implicitDefEqProofs (disch := first | omega | (simp only [lenr]; done) | (simp only [lenr]; omega)) only [↓amPre, amAll, ↓reduceIte, reduceCtorEq, Nat.reduceEqDiff, Nat.reduceBEq, Nat.reduceAdd, Nat.reduceLeDiff, Nat.reduceSub, Nat.reduceMul, Int.reduceToNat, List.size_toArray, tyF, MM, bu0, ipure, kpure, tpure, sspure, kset, tset, ksnoc, tsnoc, Kind.av, Twist.sl, Twist.tr, Invar.av, stsize, stget, sttl, stapp, stext, tsspure, Model.sl, Model.tr, vset, vsnoc, vpure, Puzz.sl, Puzz.tr]
    simp
  rintro k st _ ⟨hk, f4, f0, ek⟩
  have hr := runI_succ 0 k
  rw [Int.zero_add] at hr
  have hl := runI_len 0 k
  have hl2 := runI_len 0 (k + 1)
  rcases ek with ⟨rfl, g3, g5⟩ | ⟨h0, g3, g5⟩
  · by_cases hlt : 0 < n
    · have h1 : runI 0 1 = [0] := rfl
      simp -dsimp -implicitDefEqProofs (disch := first | omega | (simp only [lenr]; done) | (simp only [lenr]; omega)) only [↓amPre, amAll, ↓reduceIte, reduceCtorEq, Nat.reduceEqDiff, Nat.reduceBEq, Nat.reduceAdd, Nat.reduceLeDiff, Nat.reduceSub, Nat.reduceMul, Int.reduceToNat, List.size_toArray, tyF, MM, bu0, ipure, kpure, tpure, sspure, kset, tset, ksnoc, tsnoc, Kind.av, Twist.sl, Twist.tr, Invar.av, stsize, stget, sttl, stapp, stext, tsspure, Model.sl, Model.tr, vset, vsnoc, vpure, Puzz.sl, Puzz.tr, f4, f0, g3, g5]
      repeat' (first | omega | rfl | exact i64c (by omega) | exact vic (by omega) | apply And.intro)
    · have hke : n = 0 := by omega
      subst hke
      simp -dsimp -implicitDefEqProofs (disch := first | omega | (simp only [lenr]; done) | (simp only [lenr]; omega)) only [↓amPre, amAll, ↓reduceIte, reduceCtorEq, Nat.reduceEqDiff, Nat.reduceBEq, Nat.reduceAdd, Nat.reduceLeDiff, Nat.reduceSub, Nat.reduceMul, Int.reduceToNat, List.size_toArray, tyF, MM, bu0, ipure, kpure, tpure, sspure, kset, tset, ksnoc, tsnoc, Kind.av, Twist.sl, Twist.tr, Invar.av, stsize, stget, sttl, stapp, stext, tsspure, Model.sl, Model.tr, vset, vsnoc, vpure, Puzz.sl, Puzz.tr, f4, f0, g3, g5]
      rfl
  · by_cases hlt : k < n
    · simp -dsimp -implicitDefEqProofs (disch := first | omega | (simp only [lenr]; done) | (simp only [lenr]; omega)) only [↓amPre, amAll, ↓reduceIte, reduceCtorEq, Nat.reduceEqDiff, Nat.reduceBEq, Nat.reduceAdd, Nat.reduceLeDiff, Nat.reduceSub, Nat.reduceMul, Int.reduceToNat, List.size_toArray, tyF, MM, bu0, ipure, kpure, tpure, sspure, kset, tset, ksnoc, tsnoc, Kind.av, Twist.sl, Twist.tr, Invar.av, stsize, stget, sttl, stapp, stext, tsspure, Model.sl, Model.tr, vset, vsnoc, vpure, Puzz.sl, Puzz.tr, f4, f0, g3, g5, hl, ← hr]
      repeat' (first | omega | rfl | exact i64c (by omega) | exact vic (by omega) | apply And.intro)
    · have hke : k = n := by omega
      subst hke
      simp -dsimp -implicitDefEqProofs (disch := first | omega | (simp only [lenr]; done) | (simp only [lenr]; omega)) only [↓amPre, amAll, ↓reduceIte, reduceCtorEq, Nat.reduceEqDiff, Nat.reduceBEq, Nat.reduceAdd, Nat.reduceLeDiff, Nat.reduceSub, Nat.reduceMul, Int.reduceToNat, List.size_toArray, tyF, MM, bu0, ipure, kpure, tpure, sspure, kset, tset, ksnoc, tsnoc, Kind.av, Twist.sl, Twist.tr, Invar.av, stsize, stget, sttl, stapp, stext, tsspure, Model.sl, Model.tr, vset, vsnoc, vpure, Puzz.sl, Puzz.tr, f4, f0, g3, g5, hl]
theorem copyI (l : List Int) (hl : l.length ≤ 1099511627775) : SpecAt Try.prog 138 [isl l] (itr l) := by
  refine spec_of_awp (M := MM) (np := 1) (fz := false) mixed Try.func138 rfl rfl (by decide) rfl (Nat.le_refl _) (by decide +kernel) (.inl rfl) (by first | trivial | simp only [sigsOk_nil, sigsOk_some, sigsOk_none, sig_tr, sig_pt, sig_mt, sig_agg, List.map_cons, List.map_nil, sig1_tr, sig1_pt, sig1_v, and_self, true_and, List.length_map, List.length_set]) ?_
  have ht : (l.map AV.i64).take l.length = l.map AV.i64 := List.take_of_length_le (by simp)
  simp -dsimp -implicitDefEqProofs (disch := first | omega | (simp only [lenr]; done) | (simp only [lenr]; omega)) only [↓amPre, amAll, ↓reduceIte, reduceCtorEq, Nat.reduceEqDiff, Nat.reduceBEq, Nat.reduceAdd, Nat.reduceLeDiff, Nat.reduceSub, Nat.reduceMul, Int.reduceToNat, List.size_toArray, tyF, MM, bu0, ipure, kpure, tpure, sspure, kset, tset, ksnoc, tsnoc, Kind.av, Twist.sl, Twist.tr, Invar.av, stsize, stget, sttl, stapp, stext, tsspure, Model.sl, Model.tr, vset, vsnoc, vpure, Puzz.sl, Puzz.tr, Draws.grabL_ints, ht]
theorem ivL_invI (p : List Int) : ivL p p.length = invI p := by
  have h : ∀ k, ivL p k = scat (List.replicate p.length 0) p (fun i => (i : Int)) k := by
    intro k
    induction k with
    | zero => rfl
    | succ k ih => rw [ivL, scat, ih]
  exact h _
theorem sApply1 (p : Puzz) (s : List Int) (x : Int) (hp : genOk p.n p.mv) (hs : moveOk p.n s) (hx : letOk p.mv.length x) : SpecAt Try.prog 205 [p.sl, isl s, .i64 x] (itr (compI s (letP p.mv x))) := by
  have hm := letP_ok hp hx
  have hlx : letP p.mv x = _ := rfl
  conv at hlx => rhs; rw [letP]
  unfold letOk at hx
  have hs20 := hs.2.1.2
  have hm8 := hp.2.1
  have hml : (letP p.mv x).length = s.length := by have := hm.1; have := hs.1; omega
  have hcl : ∀ i, i < s.length → 0 ≤ s.getD i 0 ∧ s.getD i 0 < s.length := fun i hi => perm_get hs.2 hi
  have hc1 : compI s (letP p.mv x) = cpL s (letP p.mv x) s.length := (by
    refine ext_getD 0 (by rw [cpL_len, compI_len]) fun i hi => ?_
    rw [compI_len] at hi
    rw [cpL, range_map_get _ _ _ _ hi, compI_get _ _ _ hi])
  rw [hc1]
  by_cases c0 : 0 < x
  · obtain ⟨m, hm1⟩ : ∃ m : Nat, x - 1 = m := ⟨_, (Int.toNat_of_nonneg (by omega)).symm⟩
    rw [if_pos c0, hm1, Int.toNat_natCast] at hlx
    have hmx : (if x < 0 - x then 0 - x else x) = x := if_neg (by omega)
    have hmlt : m < p.mv.length := by omega
    have hw : IntKind.i64.wrap (0 - x) = 0 - x := wrap64_id (by omega)
    rw [hlx] at hml ⊢
    generalize hM : p.mv.getD m default = L at hml hlx ⊢
    refine spec_of_awp (M := MM) (np := 3) (fz := false) mixed Try.func205 rfl rfl (by decide) rfl (Nat.le_refl _) (by decide +kernel) (.inl rfl) (by first | trivial | simp only [sigsOk_nil, sigsOk_some, sigsOk_none, sig_tr, sig_pt, sig_mt, sig_agg, List.map_cons, List.map_nil, sig1_tr, sig1_pt, sig1_v, and_self, true_and, List.length_map, List.length_set]) ?_
    simp -dsimp -implicitDefEqProofs (disch := first | omega | (simp only [lenr]; done) | (simp only [lenr]; omega)) only [↓amPre, amAll, ↓reduceIte, reduceCtorEq, Nat.reduceEqDiff, Nat.reduceBEq, Nat.reduceAdd, Nat.reduceLeDiff, Nat.reduceSub, Nat.reduceMul, Int.reduceToNat, List.size_toArray, tyF, MM, bu0, ipure, kpure, tpure, sspure, kset, tset, ksnoc, tsnoc, Kind.av, Twist.sl, Twist.tr, Invar.av, stsize, stget, sttl, stapp, stext, tsspure, Model.sl, Model.tr, vset, vsnoc, vpure, Puzz.sl, Puzz.tr, minmaxP_int, hw, hmx, hm1, hM]
    refine awp_loopR 23 39 (.tr 1 []) (by simp -dsimp -implicitDefEqProofs (disch := first | omega | (simp only [lenr]; done) | (simp only [lenr]; omega)) only [↓amPre, amAll, ↓reduceIte, reduceCtorEq, Nat.reduceEqDiff, Nat.reduceBEq, Nat.reduceAdd, Nat.reduceLeDiff, Nat.reduceSub, Nat.reduceMul, Int.reduceToNat, List.size_toArray, tyF, MM, bu0, ipure, kpure, tpure, sspure, kset, tset, ksnoc, tsnoc, Kind.av, Twist.sl, Twist.tr, Invar.av, stsize, stget, sttl, stapp, stext, tsspure, Model.sl, Model.tr, vset, vsnoc, vpure, Puzz.sl, Puzz.tr]) (by decide) (by decide) (by decide) (fun k st => k ≤ s.length ∧ st.fr 9 = .i64 k ∧ st.fr 8 = .ref 39 [] 1 0 k ∧ st.fr 7 = isl L ∧ st.fr 1 = isl s ∧ st.mem 39 = some (itr (cpL s L k))) (s.length) ?_ ?_
    · simp -dsimp -implicitDefEqProofs (disch := first | omega | (simp only [lenr]; done) | (simp only [lenr]; omega)) only [↓amPre, amAll, ↓reduceIte, reduceCtorEq, Nat.reduceEqDiff, Nat.reduceBEq, Nat.reduceAdd, Nat.reduceLeDiff, Nat.reduceSub, Nat.reduceMul, Int.reduceToNat, List.size_toArray, tyF, MM, bu0, ipure, kpure, tpure, sspure, kset, tset, ksnoc, tsnoc, Kind.av, Twist.sl, Twist.tr, Invar.av, stsize, stget, sttl, stapp, stext, tsspure, Model.sl, Model.tr, vset, vsnoc, vpure, Puzz.sl, Puzz.tr, ren_eq]
      simp [cpL]
    rintro k st _ ⟨hk, f9, f8, f7, f1, m39⟩
    have hcs := cpL_succ s L k
    have hcn := cpL_len s L k
    have hcn2 := cpL_len s L (k + 1)
    by_cases hlt : k < s.length
    · obtain ⟨j, hj⟩ : ∃ j : Nat, s.getD k 0 = j := ⟨_, (Int.toNat_of_nonneg (hcl k hlt).1).symm⟩
      have hjl : j < L.length := by have := (hcl k hlt).2; omega
      rw [hj, Int.toNat_natCast] at hcs
      simp -dsimp -implicitDefEqProofs (disch := first | omega | (simp only [lenr]; done) | (simp only [lenr]; omega)) only [↓amPre, amAll, ↓reduceIte, reduceCtorEq, Nat.reduceEqDiff, Nat.reduceBEq, Nat.reduceAdd, Nat.reduceLeDiff, Nat.reduceSub, Nat.reduceMul, Int.reduceToNat, List.size_toArray, tyF, MM, bu0, ipure, kpure, tpure, sspure, kset, tset, ksnoc, tsnoc, Kind.av, Twist.sl, Twist.tr, Invar.av, stsize, stget, sttl, stapp, stext, tsspure, Model.sl, Model.tr, vset, vsnoc, vpure, Puzz.sl, Puzz.tr, f9, f8, f7, f1, m39, hj, hcn, hcn2, ← hcs]
      repeat' (first | omega | rfl | exact i64c (by omega) | exact vic (by omega) | apply And.intro)
    · have hke : k = s.length := by omega
      subst hke
      simp -dsimp -implicitDefEqProofs (disch := first | omega | (simp only [lenr]; done) | (simp only [lenr]; omega)) only [↓amPre, amAll, ↓reduceIte, reduceCtorEq, Nat.reduceEqDiff, Nat.reduceBEq, Nat.reduceAdd, Nat.reduceLeDiff, Nat.reduceSub, Nat.reduceMul, Int.reduceToNat, List.size_toArray, tyF, MM, bu0, ipure, kpure, tpure, sspure, kset, tset, ksnoc, tsnoc, Kind.av, Twist.sl, Twist.tr, Invar.av, stsize, stget, sttl, stapp, stext, tsspure, Model.sl, Model.tr, vset, vsnoc, vpure, Puzz.sl, Puzz.tr, f9, f8, f7, f1, m39, hcn]
  · obtain ⟨m, hm1⟩ : ∃ m : Nat, -x - 1 = m := ⟨_, (Int.toNat_of_nonneg (by omega)).symm⟩
    rw [if_neg c0, hm1, Int.toNat_natCast] at hlx
    have hmx : (if x < 0 - x then 0 - x else x) = 0 - x := if_pos (by omega)
    have hm2 : 0 - x - 1 = m := by omega
    have hmlt : m < p.mv.length := by omega
    have hw : IntKind.i64.wrap (0 - x) = 0 - x := wrap64_id (by omega)
    have hx0 : x < 0 := by omega
    have hq := hp.2.2 _ (mem_getD p.mv m default hmlt)
    rw [hlx] at hml ⊢
    generalize hM : p.mv.getD m default = M at hml hlx hq ⊢
    have hM20 := hq.2.1.2
    have hv := sInverse M (by omega) hq.2
    rw [ivL_invI] at hv
    generalize invI M = L at hml hlx hv ⊢
    refine spec_of_awp (M := MM) (np := 3) (fz := false) mixed Try.func205 rfl rfl (by decide) rfl (Nat.le_refl _) (by decide +kernel) (.inl rfl) (by first | trivial | simp only [sigsOk_nil, sigsOk_some, sigsOk_none, sig_tr, sig_pt, sig_mt, sig_agg, List.map_cons, List.map_nil, sig1_tr, sig1_pt, sig1_v, and_self, true_and, List.length_map, List.length_set]) ?_
    simp -dsimp -implicitDefEqProofs (disch := first | omega | (simp only [lenr]; done) | (simp only [lenr]; omega)) only [↓amPre, amAll, ↓reduceIte, reduceCtorEq, Nat.reduceEqDiff, Nat.reduceBEq, Nat.reduceAdd, Nat.reduceLeDiff, Nat.reduceSub, Nat.reduceMul, Int.reduceToNat, List.size_toArray, tyF, MM, bu0, ipure, kpure, tpure, sspure, kset, tset, ksnoc, tsnoc, Kind.av, Twist.sl, Twist.tr, Invar.av, stsize, stget, sttl, stapp, stext, tsspure, Model.sl, Model.tr, vset, vsnoc, vpure, Puzz.sl, Puzz.tr, minmaxP_int, hw, hmx, hm2, hM, hx0]
    refine callP_of (hv) ?_
    simp -dsimp -implicitDefEqProofs (disch := first | omega | (simp only [lenr]; done) | (simp only [lenr]; omega)) only [↓amPre, amAll, ↓reduceIte, reduceCtorEq, Nat.reduceEqDiff, Nat.reduceBEq, Nat.reduceAdd, Nat.reduceLeDiff, Nat.reduceSub, Nat.reduceMul, Int.reduceToNat, List.size_toArray, tyF, MM, bu0, ipure, kpure, tpure, sspure, kset, tset, ksnoc, tsnoc, Kind.av, Twist.sl, Twist.tr, Invar.av, stsize, stget, sttl, stapp, stext, tsspure, Model.sl, Model.tr, vset, vsnoc, vpure, Puzz.sl, Puzz.tr, minmaxP_int, hw, hmx, hm2, hM, hx0]
    refine awp_loopR 23 39 (.tr 1 []) (by simp -dsimp -implicitDefEqProofs (disch := first | omega | (simp only [lenr]; done) | (simp only [lenr]; omega)) only [↓amPre, amAll, ↓reduceIte, reduceCtorEq, Nat.reduceEqDiff, Nat.reduceBEq, Nat.reduceAdd, Nat.reduceLeDiff, Nat.reduceSub, Nat.reduceMul, Int.reduceToNat, List.size_toArray, tyF, MM, bu0, ipure, kpure, tpure, sspure, kset, tset, ksnoc, tsnoc, Kind.av, Twist.sl, Twist.tr, Invar.av, stsize, stget, sttl, stapp, stext, tsspure, Model.sl, Model.tr, vset, vsnoc, vpure, Puzz.sl, Puzz.tr]) (by decide) (by decide) (by decide) (fun k st => k ≤ s.length ∧ st.fr 9 = .i64 k ∧ st.fr 8 = .ref 39 [] 1 0 k ∧ st.fr 7 = .ref 22 [] 1 0 L.length ∧ st.fr 1 = isl s ∧ st.mem 39 = some (itr (cpL s L k)) ∧ st.mem 22 = some (itr L)) (s.length) ?_ ?_
    · simp -dsimp -implicitDefEqProofs (disch := first | omega | (simp only [lenr]; done) | (simp only [lenr]; omega)) only [↓amPre, amAll, ↓reduceIte, reduceCtorEq, Nat.reduceEqDiff, Nat.reduceBEq, Nat.reduceAdd, Nat.reduceLeDiff, Nat.reduceSub, Nat.reduceMul, Int.reduceToNat, List.size_toArray, tyF, MM, bu0, ipure, kpure, tpure, sspure, kset, tset, ksnoc, tsnoc, Kind.av, Twist.sl, Twist.tr, Invar.av, stsize, stget, sttl, stapp, stext, tsspure, Model.sl, Model.tr, vset, vsnoc, vpure, Puzz.sl, Puzz.tr, ren_eq]
      simp [cpL]
    rintro k st _ ⟨hk, f9, f8, f7, f1, m39, m22⟩
    have hcs := cpL_succ s L k
    have hcn := cpL_len s L k
    have hcn2 := cpL_len s L (k + 1)
    by_cases hlt : k < s.length
    · obtain ⟨j, hj⟩ : ∃ j : Nat, s.getD k 0 = j := ⟨_, (Int.toNat_of_nonneg (hcl k hlt).1).symm⟩
      have hjl : j < L.length := by have := (hcl k hlt).2; omega
      rw [hj, Int.toNat_natCast] at hcs
      simp -dsimp -implicitDefEqProofs (disch := first | omega | (simp only [lenr]; done) | (simp only [lenr]; omega)) only [↓amPre, amAll, ↓reduceIte, reduceCtorEq, Nat.reduceEqDiff, Nat.reduceBEq, Nat.reduceAdd, Nat.reduceLeDiff, Nat.reduceSub, Nat.reduceMul, Int.reduceToNat, List.size_toArray, tyF, MM, bu0, ipure, kpure, tpure, sspure, kset, tset, ksnoc, tsnoc, Kind.av, Twist.sl, Twist.tr, Invar.av, stsize, stget, sttl, stapp, stext, tsspure, Model.sl, Model.tr, vset, vsnoc, vpure, Puzz.sl, Puzz.tr, f9, f8, f7, f1, m39, m22, hj, hcn, hcn2, ← hcs]
      repeat' (first | omega | rfl | exact i64c (by omega) | exact vic (by omega) | apply And.intro)
    · have hke : k = s.length := by omega
      subst hke
      simp -dsimp -implicitDefEqProofs (disch := first | omega | (simp only [lenr]; done) | (simp only [lenr]; omega)) only [↓amPre, amAll, ↓reduceIte, reduceCtorEq, Nat.reduceEqDiff, Nat.reduceBEq, Nat.reduceAdd, Nat.reduceLeDiff, Nat.reduceSub, Nat.reduceMul, Int.reduceToNat, List.size_toArray, tyF, MM, bu0, ipure, kpure, tpure, sspure, kset, tset, ksnoc, tsnoc, Kind.av, Twist.sl, Twist.tr, Invar.av, stsize, stget, sttl, stapp, stext, tsspure, Model.sl, Model.tr, vset, vsnoc, vpure, Puzz.sl, Puzz.tr, f9, f8, f7, f1, m39, m22, hcn]
end Go.AM
set_option maxRecDepth 8000
namespace Go.AM
open Go.Proofs
theorem sApplyL (p : Puzz) (w : List Int) (hp : genOk p.n p.mv) (hw : wordOk p.mv.length w) : SpecAt Try.prog 182 [p.sl, isl (runI 0 p.n.toNat), isl w] (itr (effK p.n p.mv w w.length)) := by
  have h0 := effK_ok hp hw 0 (Nat.zero_le _)
  have h020 := h0.2.1.2
  change (runI 0 p.n.toNat).length ≤ 20 at h020
  have hw2 := hw.1
  refine spec_of_awp (M := MM) (np := 3) (fz := false) mixed Try.func182 rfl rfl (by decide) rfl (Nat.le_refl _) (by decide +kernel) (.inl rfl) (by first | trivial | simp only [sigsOk_nil, sigsOk_some, sigsOk_none, sig_tr, sig_pt, sig_mt, sig_agg, List.map_cons, List.map_nil, sig1_tr, sig1_pt, sig1_v, and_self, true_and, List.length_map, List.length_set]) ?_
  simp -dsimp -implicitDefEqProofs (disch := first | omega | (simp only [lenr]; done) | (simp only [lenr]; omega)) only [↓amPre, amAll, ↓reduceIte, reduceCtorEq, Nat.reduceEqDiff, Nat.reduceBEq, Nat.reduceAdd, Nat.reduceLeDiff, Nat.reduceSub, Nat.reduceMul, Int.reduceToNat, List.size_toArray, tyF, MM, bu0, ipure, kpure, tpure, sspure, kset, tset, ksnoc, tsnoc, Kind.av, Twist.sl, Twist.tr, Invar.av, stsize, stget, sttl, stapp, stext, tsspure, Model.sl, Model.tr, vset, vsnoc, vpure, Puzz.sl, Puzz.tr]
  refine callP_of (copyI (runI 0 p.n.toNat) (by omega)) ?_
  simp -dsimp -implicitDefEqProofs (disch := first | omega | (simp only [lenr]; done) | (simp only [lenr]; omega)) only [↓amPre, amAll, ↓reduceIte, reduceCtorEq, Nat.reduceEqDiff, Nat.reduceBEq, Nat.reduceAdd, Nat.reduceLeDiff, Nat.reduceSub, Nat.reduceMul, Int.reduceToNat, List.size_toArray, tyF, MM, bu0, ipure, kpure, tpure, sspure, kset, tset, ksnoc, tsnoc, Kind.av, Twist.sl, Twist.tr, Invar.av, stsize, stget, sttl, stapp, stext, tsspure, Model.sl, Model.tr, vset, vsnoc, vpure, Puzz.sl, Puzz.tr]
  refine awp_loopGR 10 70 (itr (runI 0 p.n.toNat)) (by simp -dsimp -implicitDefEqProofs (disch := first | omega | (simp only [lenr]; done) | (simp only [lenr]; omega)) only [↓amPre, amAll, ↓reduceIte, reduceCtorEq, Nat.reduceEqDiff, Nat.reduceBEq, Nat.reduceAdd, Nat.reduceLeDiff, Nat.reduceSub, Nat.reduceMul, Int.reduceToNat, List.size_toArray, tyF, MM, bu0, ipure, kpure, tpure, sspure, kset, tset, ksnoc, tsnoc, Kind.av, Twist.sl, Twist.tr, Invar.av, stsize, stget, sttl, stapp, stext, tsspure, Model.sl, Model.tr, vset, vsnoc, vpure, Puzz.sl, Puzz.tr]) (by decide) (by decide) (by decide) (fun k st => k ≤ w.length ∧ st.fr 8 = .i64 k ∧ st.fr 7 = .ref 70 [] 1 0 (effK p.n p.mv w k).length ∧ st.fr 3 = .loc 3 [] 0 0 ∧ st.fr 2 = isl w ∧ st.mem 70 = some (itr (effK p.n p.mv w k)) ∧ st.mem 3 = some (.pt 3 p.sl)) (w.length) ?_ ?_
  · simp -dsimp -implicitDefEqProofs (disch := first | omega | (simp only [lenr]; done) | (simp only [lenr]; omega)) only [↓amPre, amAll, ↓reduceIte, reduceCtorEq, Nat.reduceEqDiff, Nat.reduceBEq, Nat.reduceAdd, Nat.reduceLeDiff, Nat.reduceSub, Nat.reduceMul, Int.reduceToNat, List.size_toArray, tyF, MM, bu0, ipure, kpure, tpure, sspure, kset, tset, ksnoc, tsnoc, Kind.av, Twist.sl, Twist.tr, Invar.av, stsize, stget, sttl, stapp, stext, tsspure, Model.sl, Model.tr, vset, vsnoc, vpure, Puzz.sl, Puzz.tr, ren_eq]
    exact ⟨Nat.zero_le _, rfl, rfl, rfl⟩
  rintro k st _ ⟨hk, f8, f7, f3, f2, m70, m3⟩
  have hk1 := effK_ok hp hw k hk
  have hef : effK p.n p.mv w (k + 1) = compI (effK p.n p.mv w k) (letP p.mv (w.getD k 0)) := rfl
  by_cases hlt : k < w.length
  · have hk2 := effK_ok hp hw (k + 1) hlt
    have hl : (effK p.n p.mv w (k + 1)).length = (effK p.n p.mv w k).length := by rw [hef, compI_len]
    have ha := sApply1 p (effK p.n p.mv w k) (w.getD k 0) hp hk1 (hw.2 _ (mem_getD w k 0 hlt))
    rw [← hef] at ha
    have hl20 := hk1.2.1.2
    generalize effK p.n p.mv w (k + 1) = X at ha hl hk2
    simp -dsimp -implicitDefEqProofs (disch := first | omega | (simp only [lenr]; done) | (simp only [lenr]; omega)) only [↓amPre, amAll, ↓reduceIte, reduceCtorEq, Nat.reduceEqDiff, Nat.reduceBEq, Nat.reduceAdd, Nat.reduceLeDiff, Nat.reduceSub, Nat.reduceMul, Int.reduceToNat, List.size_toArray, tyF, MM, bu0, ipure, kpure, tpure, sspure, kset, tset, ksnoc, tsnoc, Kind.av, Twist.sl, Twist.tr, Invar.av, stsize, stget, sttl, stapp, stext, tsspure, Model.sl, Model.tr, vset, vsnoc, vpure, Puzz.sl, Puzz.tr, f8, f7, f3, f2, m70, m3]
    refine callP_of (ha) ?_
    simp -dsimp -implicitDefEqProofs (disch := first | omega | (simp only [lenr]; done) | (simp only [lenr]; omega)) only [↓amPre, amAll, ↓reduceIte, reduceCtorEq, Nat.reduceEqDiff, Nat.reduceBEq, Nat.reduceAdd, Nat.reduceLeDiff, Nat.reduceSub, Nat.reduceMul, Int.reduceToNat, List.size_toArray, tyF, MM, bu0, ipure, kpure, tpure, sspure, kset, tset, ksnoc, tsnoc, Kind.av, Twist.sl, Twist.tr, Invar.av, stsize, stget, sttl, stapp, stext, tsspure, Model.sl, Model.tr, vset, vsnoc, vpure, Puzz.sl, Puzz.tr, f8, f7, f3, f2, m70, m3]
    refine ⟨by omega, _, ent_ren _ 23 70 (itr X) (by simp -dsimp -implicitDefEqProofs (disch := first | omega | (simp only [lenr]; done) | (simp only [lenr]; omega)) only [↓amPre, amAll, ↓reduceIte, reduceCtorEq, Nat.reduceEqDiff, Nat.reduceBEq, Nat.reduceAdd, Nat.reduceLeDiff, Nat.reduceSub, Nat.reduceMul, Int.reduceToNat, List.size_toArray, tyF, MM, bu0, ipure, kpure, tpure, sspure, kset, tset, ksnoc, tsnoc, Kind.av, Twist.sl, Twist.tr, Invar.av, stsize, stget, sttl, stapp, stext, tsspure, Model.sl, Model.tr, vset, vsnoc, vpure, Puzz.sl, Puzz.tr, f8, f7, f3, f2, m70, m3]) (by decide) (by decide) (by decide), ?_⟩
    simp -dsimp -implicitDefEqProofs (disch := first | omega | (simp only [lenr]; done) | (simp only [lenr]; omega)) only [↓amPre, amAll, ↓reduceIte, reduceCtorEq, Nat.reduceEqDiff, Nat.reduceBEq, Nat.reduceAdd, Nat.reduceLeDiff, Nat.reduceSub, Nat.reduceMul, Int.reduceToNat, List.size_toArray, tyF, MM, bu0, ipure, kpure, tpure, sspure, kset, tset, ksnoc, tsnoc, Kind.av, Twist.sl, Twist.tr, Invar.av, stsize, stget, sttl, stapp, stext, tsspure, Model.sl, Model.tr, vset, vsnoc, vpure, Puzz.sl, Puzz.tr, f8, f7, f3, f2, m70, m3, ren_eq, hl]
    omega
  · have hke : k = w.length := by omega
    subst hke
    simp -dsimp -implicitDefEqProofs (disch := first | omega | (simp only [lenr]; done) | (simp only [lenr]; omega)) only [↓amPre, amAll, ↓reduceIte, reduceCtorEq, Nat.reduceEqDiff, Nat.reduceBEq, Nat.reduceAdd, Nat.reduceLeDiff, Nat.reduceSub, Nat.reduceMul, Int.reduceToNat, List.size_toArray, tyF, MM, bu0, ipure, kpure, tpure, sspure, kset, tset, ksnoc, tsnoc, Kind.av, Twist.sl, Twist.tr, Invar.av, stsize, stget, sttl, stapp, stext, tsspure, Model.sl, Model.tr, vset, vsnoc, vpure, Puzz.sl, Puzz.tr, f8, f7, f3, f2, m70, m3]
theorem sEffect (p : Puzz) (w : List Int) (hp : genOk p.n p.mv) (hw : wordOk p.mv.length w) : SpecAt Try.prog 135 [p.sl, isl w] (itr (effK p.n p.mv w w.length)) := by
  obtain ⟨pn, nm, mv⟩ := p
  have hn := hp.1
  simp only at hn
  obtain ⟨n, rfl⟩ : ∃ n : Nat, pn = n := ⟨pn.toNat, by omega⟩
  have h1 := sIdentity n (by omega)
  have h2 := sApplyL _ w hp hw
  simp only [Int.toNat_natCast] at h2
  have hr := runI_len 0 n
  refine spec_of_awp_any (M := MM) (np := 2) (X := [1]) (fz := false) mixed Try.func135 rfl rfl (by decide) rfl (Nat.le_refl _) (by decide +kernel) (.inl rfl) (by first | trivial | simp only [sigsOk_nil, sigsOk_some, sigsOk_none, sig_tr, sig_pt, sig_mt, sig_agg, List.map_cons, List.map_nil, sig1_tr, sig1_pt, sig1_v, and_self, true_and, List.length_map, List.length_set]) ?_
  simp -dsimp -implicitDefEqProofs (disch := first | omega | (simp only [lenr]; done) | (simp only [lenr]; omega)) only [↓amPre, amAll, ↓reduceIte, reduceCtorEq, Nat.reduceEqDiff, Nat.reduceBEq, Nat.reduceAdd, Nat.reduceLeDiff, Nat.reduceSub, Nat.reduceMul, Int.reduceToNat, List.size_toArray, tyF, MM, bu0, ipure, kpure, tpure, sspure, kset, tset, ksnoc, tsnoc, Kind.av, Twist.sl, Twist.tr, Invar.av, stsize, stget, sttl, stapp, stext, tsspure, Model.sl, Model.tr, vset, vsnoc, vpure, Puzz.sl, Puzz.tr]
  refine made_go 7 [[], [], [], [], [], [8], []] (by decide +kernel) ?_
  simp -dsimp -implicitDefEqProofs (disch := first | omega | (simp only [lenr]; done) | (simp only [lenr]; omega)) only [↓amPre, amAll, ↓reduceIte, reduceCtorEq, Nat.reduceEqDiff, Nat.reduceBEq, Nat.reduceAdd, Nat.reduceLeDiff, Nat.reduceSub, Nat.reduceMul, Int.reduceToNat, List.size_toArray, tyF, MM, bu0, ipure, kpure, tpure, sspure, kset, tset, ksnoc, tsnoc, Kind.av, Twist.sl, Twist.tr, Invar.av, stsize, stget, sttl, stapp, stext, tsspure, Model.sl, Model.tr, vset, vsnoc, vpure, Puzz.sl, Puzz.tr]
  refine callP_of (h1) ?_
  simp -dsimp -implicitDefEqProofs (disch := first | omega | (simp only [lenr]; done) | (simp only [lenr]; omega)) only [↓amPre, amAll, ↓reduceIte, reduceCtorEq, Nat.reduceEqDiff, Nat.reduceBEq, Nat.reduceAdd, Nat.reduceLeDiff, Nat.reduceSub, Nat.reduceMul, Int.reduceToNat, List.size_toArray, tyF, MM, bu0, ipure, kpure, tpure, sspure, kset, tset, ksnoc, tsnoc, Kind.av, Twist.sl, Twist.tr, Invar.av, stsize, stget, sttl, stapp, stext, tsspure, Model.sl, Model.tr, vset, vsnoc, vpure, Puzz.sl, Puzz.tr, hr]
  refine callP_of (h2) ?_
  simp -dsimp -implicitDefEqProofs (disch := first | omega | (simp only [lenr]; done) | (simp only [lenr]; omega)) only [↓amPre, amAll, ↓reduceIte, reduceCtorEq, Nat.reduceEqDiff, Nat.reduceBEq, Nat.reduceAdd, Nat.reduceLeDiff, Nat.reduceSub, Nat.reduceMul, Int.reduceToNat, List.size_toArray, tyF, MM, bu0, ipure, kpure, tpure, sspure, kset, tset, ksnoc, tsnoc, Kind.av, Twist.sl, Twist.tr, Invar.av, stsize, stget, sttl, stapp, stext, tsspure, Model.sl, Model.tr, vset, vsnoc, vpure, Puzz.sl, Puzz.tr]
theorem moved (p : List Int) (hp : p.length ≤ 20) : SpecAt Try.prog 134 [isl p] (itr (movL p p.length)) := by
  refine spec_of_awp (M := MM) (np := 1) (fz := false) mixed Try.func134 rfl rfl (by decide) rfl (Nat.le_refl _) (by decide +kernel) (.inl rfl) (by first | trivial | simp only [sigsOk_nil, sigsOk_some, sigsOk_none, sig_tr, sig_pt, sig_mt, sig_agg, List.map_cons, List.map_nil, sig1_tr, sig1_pt, sig1_v, and_self, true_and, List.length_map, List.length_set]) ?_
  simp -dsimp -implicitDefEqProofs (disch := first | omega | (simp only [lenr]; done) | (simp only [lenr]; omega)) only [↓amPre, amAll, ↓reduceIte, reduceCtorEq, Nat.reduceEqDiff, Nat.reduceBEq, Nat.reduceAdd, Nat.reduceLeDiff, Nat.reduceSub, Nat.reduceMul, Int.reduceToNat, List.size_toArray, tyF, MM, bu0, ipure, kpure, tpure, sspure, kset, tset, ksnoc, tsnoc, Kind.av, Twist.sl, Twist.tr, Invar.av, stsize, stget, sttl, stapp, stext, tsspure, Model.sl, Model.tr, vset, vsnoc, vpure, Puzz.sl, Puzz.tr]
  refine awp_loop (fun k st => k ≤ p.length ∧ st.fr 4 = .i64 k ∧ st.fr 0 = isl p ∧ (((movL p k = [] ∧ st.fr 3 = .ref 5 [] 1 0 0 ∧ st.mem 5 = some (.tr 1 [])) ∨ (st.fr 3 = .ref 21 [] 1 0 (movL p k).length ∧ st.mem 21 = some (itr (movL p k)))))) (p.length) ?_ ?_
  · simp -dsimp -implicitDefEqProofs (disch := first | omega | (simp only [lenr]; done) | (simp only [lenr]; omega)) only [↓amPre, amAll, ↓reduceIte, reduceCtorEq, Nat.reduceEqDiff, Nat.reduceBEq, Nat.reduceAdd, Nat.reduceLeDiff, Nat.reduceSub, Nat.reduceMul, Int.reduceToNat, List.size_toArray, tyF, MM, bu0, ipure, kpure, tpure, sspure, kset, tset, ksnoc, tsnoc, Kind.av, Twist.sl, Twist.tr, Invar.av, stsize, stget, sttl, stapp, stext, tsspure, Model.sl, Model.tr, vset, vsnoc, vpure, Puzz.sl, Puzz.tr]
    simp [movL]
  rintro k st _ ⟨hk, f4, f0, ek⟩
  have hs := movL_succ p k
  have hle := movL_le p k
  by_cases hlt : k < p.length
  · by_cases c : p.getD k 0 = k
    · rw [if_pos c] at hs
      rcases ek with ⟨g1, g3, g5⟩ | ⟨g3, g5⟩
      · simp -dsimp -implicitDefEqProofs (disch := first | omega | (simp only [lenr]; done) | (simp only [lenr]; omega)) only [↓amPre, amAll, ↓reduceIte, reduceCtorEq, Nat.reduceEqDiff, Nat.reduceBEq, Nat.reduceAdd, Nat.reduceLeDiff, Nat.reduceSub, Nat.reduceMul, Int.reduceToNat, List.size_toArray, tyF, MM, bu0, ipure, kpure, tpure, sspure, kset, tset, ksnoc, tsnoc, Kind.av, Twist.sl, Twist.tr, Invar.av, stsize, stget, sttl, stapp, stext, tsspure, Model.sl, Model.tr, vset, vsnoc, vpure, Puzz.sl, Puzz.tr, f4, f0, g3, g5, c, hs, g1]
        repeat' (first | omega | rfl | exact i64c (by omega) | exact vic (by omega) | apply And.intro)
      · simp -dsimp -implicitDefEqProofs (disch := first | omega | (simp only [lenr]; done) | (simp only [lenr]; omega)) only [↓amPre, amAll, ↓reduceIte, reduceCtorEq, Nat.reduceEqDiff, Nat.reduceBEq, Nat.reduceAdd, Nat.reduceLeDiff, Nat.reduceSub, Nat.reduceMul, Int.reduceToNat, List.size_toArray, tyF, MM, bu0, ipure, kpure, tpure, sspure, kset, tset, ksnoc, tsnoc, Kind.av, Twist.sl, Twist.tr, Invar.av, stsize, stget, sttl, stapp, stext, tsspure, Model.sl, Model.tr, vset, vsnoc, vpure, Puzz.sl, Puzz.tr, f4, f0, g3, g5, c, hs]
        repeat' (first | omega | rfl | exact i64c (by omega) | exact vic (by omega) | apply And.intro)
    · rw [if_neg c] at hs
      have hl2 : (movL p (k + 1)).length = (movL p k).length + 1 := by rw [hs]; simp
      rcases ek with ⟨g1, g3, g5⟩ | ⟨g3, g5⟩
      · simp -dsimp -implicitDefEqProofs (disch := first | omega | (simp only [lenr]; done) | (simp only [lenr]; omega)) only [↓amPre, amAll, ↓reduceIte, reduceCtorEq, Nat.reduceEqDiff, Nat.reduceBEq, Nat.reduceAdd, Nat.reduceLeDiff, Nat.reduceSub, Nat.reduceMul, Int.reduceToNat, List.size_toArray, tyF, MM, bu0, ipure, kpure, tpure, sspure, kset, tset, ksnoc, tsnoc, Kind.av, Twist.sl, Twist.tr, Invar.av, stsize, stget, sttl, stapp, stext, tsspure, Model.sl, Model.tr, vset, vsnoc, vpure, Puzz.sl, Puzz.tr, f4, f0, g3, g5, c, hs, g1]
        repeat' (first | omega | rfl | exact i64c (by omega) | exact vic (by omega) | apply And.intro)
      · simp -dsimp -implicitDefEqProofs (disch := first | omega | (simp only [lenr]; done) | (simp only [lenr]; omega)) only [↓amPre, amAll, ↓reduceIte, reduceCtorEq, Nat.reduceEqDiff, Nat.reduceBEq, Nat.reduceAdd, Nat.reduceLeDiff, Nat.reduceSub, Nat.reduceMul, Int.reduceToNat, List.size_toArray, tyF, MM, bu0, ipure, kpure, tpure, sspure, kset, tset, ksnoc, tsnoc, Kind.av, Twist.sl, Twist.tr, Invar.av, stsize, stget, sttl, stapp, stext, tsspure, Model.sl, Model.tr, vset, vsnoc, vpure, Puzz.sl, Puzz.tr, f4, f0, g3, g5, c, ← hs, ← hl2]
        repeat' (first | omega | rfl | exact i64c (by omega) | exact vic (by omega) | apply And.intro)
  · have hke : k = p.length := by omega
    subst hke
    rcases ek with ⟨g1, g3, g5⟩ | ⟨g3, g5⟩
    · simp -dsimp -implicitDefEqProofs (disch := first | omega | (simp only [lenr]; done) | (simp only [lenr]; omega)) only [↓amPre, amAll, ↓reduceIte, reduceCtorEq, Nat.reduceEqDiff, Nat.reduceBEq, Nat.reduceAdd, Nat.reduceLeDiff, Nat.reduceSub, Nat.reduceMul, Int.reduceToNat, List.size_toArray, tyF, MM, bu0, ipure, kpure, tpure, sspure, kset, tset, ksnoc, tsnoc, Kind.av, Twist.sl, Twist.tr, Invar.av, stsize, stget, sttl, stapp, stext, tsspure, Model.sl, Model.tr, vset, vsnoc, vpure, Puzz.sl, Puzz.tr, f4, f0, g3, g5, g1]
    · simp -dsimp -implicitDefEqProofs (disch := first | omega | (simp only [lenr]; done) | (simp only [lenr]; omega)) only [↓amPre, amAll, ↓reduceIte, reduceCtorEq, Nat.reduceEqDiff, Nat.reduceBEq, Nat.reduceAdd, Nat.reduceLeDiff, Nat.reduceSub, Nat.reduceMul, Int.reduceToNat, List.size_toArray, tyF, MM, bu0, ipure, kpure, tpure, sspure, kset, tset, ksnoc, tsnoc, Kind.av, Twist.sl, Twist.tr, Invar.av, stsize, stget, sttl, stapp, stext, tsspure, Model.sl, Model.tr, vset, vsnoc, vpure, Puzz.sl, Puzz.tr, f4, f0, g3, g5]
end Go.AM
set_option maxRecDepth 8000
namespace Go.AM
open Go.Proofs
theorem iLetter (n : Int) (mv : List (List Int)) (x : Int) (hp : genOk n mv) (hx : letOk mv.length x) : SpecAt Try.prog 197 [ssl mv, .i64 x] (isl (letP mv x)) ∨ SpecAt Try.prog 197 [ssl mv, .i64 x] (itr (letP mv x)) := by
  have hlx : letP mv x = _ := rfl
  conv at hlx => rhs; rw [letP]
  unfold letOk at hx
  have hm8 := hp.2.1
  by_cases c0 : 0 < x
  · obtain ⟨m, hm1⟩ : ∃ m : Nat, x - 1 = m := ⟨_, (Int.toNat_of_nonneg (by omega)).symm⟩
    rw [if_pos c0, hm1, Int.toNat_natCast] at hlx
    have hmlt : m < mv.length := by omega
    rw [hlx]
    left
    refine spec_of_awp (M := MM) (np := 2) (fz := true) mixed Try.func197 rfl rfl (by decide) rfl (Nat.le_refl _) (by decide +kernel) (.inr ⟨rfl, rfl⟩) trivial ?_
    simp -dsimp -implicitDefEqProofs (disch := first | omega | (simp only [lenr]; done) | (simp only [lenr]; omega)) only [↓amPre, amAll, ↓reduceIte, reduceCtorEq, Nat.reduceEqDiff, Nat.reduceBEq, Nat.reduceAdd, Nat.reduceLeDiff, Nat.reduceSub, Nat.reduceMul, Int.reduceToNat, List.size_toArray, tyF, MM, bu0, ipure, kpure, tpure, sspure, kset, tset, ksnoc, tsnoc, Kind.av, Twist.sl, Twist.tr, Invar.av, stsize, stget, sttl, stapp, stext, tsspure, Model.sl, Model.tr, vset, vsnoc, vpure, Puzz.sl, Puzz.tr, lt_true c0, hm1]
  · obtain ⟨m, hm1⟩ : ∃ m : Nat, -x - 1 = m := ⟨_, (Int.toNat_of_nonneg (by omega)).symm⟩
    rw [if_neg c0, hm1, Int.toNat_natCast] at hlx
    have hmlt : m < mv.length := by omega
    have hw : IntKind.i64.wrap (0 - x) = 0 - x := wrap64_id (by omega)
    have hm2 : 0 - x - 1 = m := by omega
    have hq := hp.2.2 _ (mem_getD mv m default hmlt)
    rw [hlx]
    generalize hM : mv.getD m default = M at hq
    have hM20 := hq.2.1.2
    have hv := iinverse M (by omega) hq.2.2.1
    right
    refine spec_of_awp (M := MM) (np := 2) (fz := false) mixed Try.func197 rfl rfl (by decide) rfl (Nat.le_refl _) (by decide +kernel) (.inl rfl) (by first | trivial | simp only [sigsOk_nil, sigsOk_some, sigsOk_none, sig_tr, sig_pt, sig_mt, sig_agg, List.map_cons, List.map_nil, sig1_tr, sig1_pt, sig1_v, and_self, true_and, List.length_map, List.length_set]) ?_
    simp -dsimp -implicitDefEqProofs (disch := first | omega | (simp only [lenr]; done) | (simp only [lenr]; omega)) only [↓amPre, amAll, ↓reduceIte, reduceCtorEq, Nat.reduceEqDiff, Nat.reduceBEq, Nat.reduceAdd, Nat.reduceLeDiff, Nat.reduceSub, Nat.reduceMul, Int.reduceToNat, List.size_toArray, tyF, MM, bu0, ipure, kpure, tpure, sspure, kset, tset, ksnoc, tsnoc, Kind.av, Twist.sl, Twist.tr, Invar.av, stsize, stget, sttl, stapp, stext, tsspure, Model.sl, Model.tr, vset, vsnoc, vpure, Puzz.sl, Puzz.tr, lt_false (Int.not_lt.1 c0), hw, hm2, hM]
    refine callP_of (hv) ?_
    simp -dsimp -implicitDefEqProofs (disch := first | omega | (simp only [lenr]; done) | (simp only [lenr]; omega)) only [↓amPre, amAll, ↓reduceIte, reduceCtorEq, Nat.reduceEqDiff, Nat.reduceBEq, Nat.reduceAdd, Nat.reduceLeDiff, Nat.reduceSub, Nat.reduceMul, Int.reduceToNat, List.size_toArray, tyF, MM, bu0, ipure, kpure, tpure, sspure, kset, tset, ksnoc, tsnoc, Kind.av, Twist.sl, Twist.tr, Invar.av, stsize, stget, sttl, stapp, stext, tsspure, Model.sl, Model.tr, vset, vsnoc, vpure, Puzz.sl, Puzz.tr, hM]
theorem iEvaluate (n : Nat) (mv : List (List Int)) (w : List Int) (hp : genOk n mv) (hw : wordOk mv.length w) : SpecAt Try.prog 170 [.i64 n, ssl mv, isl w] (itr (effK n mv w w.length)) := by
  have hn := hp.1
  have h1 := iidentity n (by omega)
  have hw2 := hw.1
  have hr := runI_len 0 n
  refine spec_of_awp (M := MM) (np := 3) (fz := false) mixed Try.func170 rfl rfl (by decide) rfl (Nat.le_refl _) (by decide +kernel) (.inl rfl) (by first | trivial | simp only [sigsOk_nil, sigsOk_some, sigsOk_none, sig_tr, sig_pt, sig_mt, sig_agg, List.map_cons, List.map_nil, sig1_tr, sig1_pt, sig1_v, and_self, true_and, List.length_map, List.length_set]) ?_
  simp -dsimp -implicitDefEqProofs (disch := first | omega | (simp only [lenr]; done) | (simp only [lenr]; omega)) only [↓amPre, amAll, ↓reduceIte, reduceCtorEq, Nat.reduceEqDiff, Nat.reduceBEq, Nat.reduceAdd, Nat.reduceLeDiff, Nat.reduceSub, Nat.reduceMul, Int.reduceToNat, List.size_toArray, tyF, MM, bu0, ipure, kpure, tpure, sspure, kset, tset, ksnoc, tsnoc, Kind.av, Twist.sl, Twist.tr, Invar.av, stsize, stget, sttl, stapp, stext, tsspure, Model.sl, Model.tr, vset, vsnoc, vpure, Puzz.sl, Puzz.tr]
  refine callP_of (h1) ?_
  simp -dsimp -implicitDefEqProofs (disch := first | omega | (simp only [lenr]; done) | (simp only [lenr]; omega)) only [↓amPre, amAll, ↓reduceIte, reduceCtorEq, Nat.reduceEqDiff, Nat.reduceBEq, Nat.reduceAdd, Nat.reduceLeDiff, Nat.reduceSub, Nat.reduceMul, Int.reduceToNat, List.size_toArray, tyF, MM, bu0, ipure, kpure, tpure, sspure, kset, tset, ksnoc, tsnoc, Kind.av, Twist.sl, Twist.tr, Invar.av, stsize, stget, sttl, stapp, stext, tsspure, Model.sl, Model.tr, vset, vsnoc, vpure, Puzz.sl, Puzz.tr, hr]
  refine awp_loopR 11 22 (itr (runI 0 n)) (by simp -dsimp -implicitDefEqProofs (disch := first | omega | (simp only [lenr]; done) | (simp only [lenr]; omega)) only [↓amPre, amAll, ↓reduceIte, reduceCtorEq, Nat.reduceEqDiff, Nat.reduceBEq, Nat.reduceAdd, Nat.reduceLeDiff, Nat.reduceSub, Nat.reduceMul, Int.reduceToNat, List.size_toArray, tyF, MM, bu0, ipure, kpure, tpure, sspure, kset, tset, ksnoc, tsnoc, Kind.av, Twist.sl, Twist.tr, Invar.av, stsize, stget, sttl, stapp, stext, tsspure, Model.sl, Model.tr, vset, vsnoc, vpure, Puzz.sl, Puzz.tr]) (by decide) (by decide) (by decide) (fun k st => k ≤ w.length ∧ st.fr 14 = .i64 k ∧ st.fr 13 = .i64 w.length ∧ st.fr 12 = isl w ∧ st.fr 7 = .ref 22 [] 1 0 (effK n mv w k).length ∧ st.fr 1 = ssl mv ∧ st.mem 22 = some (itr (effK n mv w k))) (w.length) ?_ ?_
  · simp -dsimp -implicitDefEqProofs (disch := first | omega | (simp only [lenr]; done) | (simp only [lenr]; omega)) only [↓amPre, amAll, ↓reduceIte, reduceCtorEq, Nat.reduceEqDiff, Nat.reduceBEq, Nat.reduceAdd, Nat.reduceLeDiff, Nat.reduceSub, Nat.reduceMul, Int.reduceToNat, List.size_toArray, tyF, MM, bu0, ipure, kpure, tpure, sspure, kset, tset, ksnoc, tsnoc, Kind.av, Twist.sl, Twist.tr, Invar.av, stsize, stget, sttl, stapp, stext, tsspure, Model.sl, Model.tr, vset, vsnoc, vpure, Puzz.sl, Puzz.tr, ren_eq, effK]
    exact ⟨Nat.zero_le _, rfl, by simp [runI_len]⟩
  rintro k st _ ⟨hk, f14, f13, f12, f7, f1, m22⟩
  have hk1 := effK_ok hp hw k hk
  have hef : effK n mv w (k + 1) = compI (effK n mv w k) (letP mv (w.getD k 0)) := rfl
  by_cases hlt : k < w.length
  · have hx := hw.2 _ (mem_getD w k 0 hlt)
    have hlo := letP_ok hp hx
    have hl : (effK n mv w (k + 1)).length = (effK n mv w k).length := by rw [hef, compI_len]
    have hl20 := hk1.2.1.2
    have hq := icompose (effK n mv w k) (letP mv (w.getD k 0)) (by omega) (fun y hy => by have := hk1.2.2.1 y hy; have := hk1.1; have := hlo.1; omega)
    rw [← hef] at hq
    rcases iLetter n mv (w.getD k 0) hp hx with ha | ha
    · simp -dsimp -implicitDefEqProofs (disch := first | omega | (simp only [lenr]; done) | (simp only [lenr]; omega)) only [↓amPre, amAll, ↓reduceIte, reduceCtorEq, Nat.reduceEqDiff, Nat.reduceBEq, Nat.reduceAdd, Nat.reduceLeDiff, Nat.reduceSub, Nat.reduceMul, Int.reduceToNat, List.size_toArray, tyF, MM, bu0, ipure, kpure, tpure, sspure, kset, tset, ksnoc, tsnoc, Kind.av, Twist.sl, Twist.tr, Invar.av, stsize, stget, sttl, stapp, stext, tsspure, Model.sl, Model.tr, vset, vsnoc, vpure, Puzz.sl, Puzz.tr, f14, f13, f12, f7, f1, m22]
      refine callP_of (ha) ?_
      simp -dsimp -implicitDefEqProofs (disch := first | omega | (simp only [lenr]; done) | (simp only [lenr]; omega)) only [↓amPre, amAll, ↓reduceIte, reduceCtorEq, Nat.reduceEqDiff, Nat.reduceBEq, Nat.reduceAdd, Nat.reduceLeDiff, Nat.reduceSub, Nat.reduceMul, Int.reduceToNat, List.size_toArray, tyF, MM, bu0, ipure, kpure, tpure, sspure, kset, tset, ksnoc, tsnoc, Kind.av, Twist.sl, Twist.tr, Invar.av, stsize, stget, sttl, stapp, stext, tsspure, Model.sl, Model.tr, vset, vsnoc, vpure, Puzz.sl, Puzz.tr, f14, f13, f12, f7, f1, m22]
      refine callP_of (hq) ?_
      simp -dsimp -implicitDefEqProofs (disch := first | omega | (simp only [lenr]; done) | (simp only [lenr]; omega)) only [↓amPre, amAll, ↓reduceIte, reduceCtorEq, Nat.reduceEqDiff, Nat.reduceBEq, Nat.reduceAdd, Nat.reduceLeDiff, Nat.reduceSub, Nat.reduceMul, Int.reduceToNat, List.size_toArray, tyF, MM, bu0, ipure, kpure, tpure, sspure, kset, tset, ksnoc, tsnoc, Kind.av, Twist.sl, Twist.tr, Invar.av, stsize, stget, sttl, stapp, stext, tsspure, Model.sl, Model.tr, vset, vsnoc, vpure, Puzz.sl, Puzz.tr, f14, f13, f12, f7, f1, m22, hl]
      repeat' (first | omega | rfl | exact i64c (by omega) | exact vic (by omega) | apply And.intro)
    · simp -dsimp -implicitDefEqProofs (disch := first | omega | (simp only [lenr]; done) | (simp only [lenr]; omega)) only [↓amPre, amAll, ↓reduceIte, reduceCtorEq, Nat.reduceEqDiff, Nat.reduceBEq, Nat.reduceAdd, Nat.reduceLeDiff, Nat.reduceSub, Nat.reduceMul, Int.reduceToNat, List.size_toArray, tyF, MM, bu0, ipure, kpure, tpure, sspure, kset, tset, ksnoc, tsnoc, Kind.av, Twist.sl, Twist.tr, Invar.av, stsize, stget, sttl, stapp, stext, tsspure, Model.sl, Model.tr, vset, vsnoc, vpure, Puzz.sl, Puzz.tr, f14, f13, f12, f7, f1, m22]
      refine callP_of (ha) ?_
      simp -dsimp -implicitDefEqProofs (disch := first | omega | (simp only [lenr]; done) | (simp only [lenr]; omega)) only [↓amPre, amAll, ↓reduceIte, reduceCtorEq, Nat.reduceEqDiff, Nat.reduceBEq, Nat.reduceAdd, Nat.reduceLeDiff, Nat.reduceSub, Nat.reduceMul, Int.reduceToNat, List.size_toArray, tyF, MM, bu0, ipure, kpure, tpure, sspure, kset, tset, ksnoc, tsnoc, Kind.av, Twist.sl, Twist.tr, Invar.av, stsize, stget, sttl, stapp, stext, tsspure, Model.sl, Model.tr, vset, vsnoc, vpure, Puzz.sl, Puzz.tr, f14, f13, f12, f7, f1, m22]
      refine callP_of (hq) ?_
      simp -dsimp -implicitDefEqProofs (disch := first | omega | (simp only [lenr]; done) | (simp only [lenr]; omega)) only [↓amPre, amAll, ↓reduceIte, reduceCtorEq, Nat.reduceEqDiff, Nat.reduceBEq, Nat.reduceAdd, Nat.reduceLeDiff, Nat.reduceSub, Nat.reduceMul, Int.reduceToNat, List.size_toArray, tyF, MM, bu0, ipure, kpure, tpure, sspure, kset, tset, ksnoc, tsnoc, Kind.av, Twist.sl, Twist.tr, Invar.av, stsize, stget, sttl, stapp, stext, tsspure, Model.sl, Model.tr, vset, vsnoc, vpure, Puzz.sl, Puzz.tr, f14, f13, f12, f7, f1, m22, hl]
      repeat' (first | omega | rfl | exact i64c (by omega) | exact vic (by omega) | apply And.intro)
  · have hke : k = w.length := by omega
    subst hke
    simp -dsimp -implicitDefEqProofs (disch := first | omega | (simp only [lenr]; done) | (simp only [lenr]; omega)) only [↓amPre, amAll, ↓reduceIte, reduceCtorEq, Nat.reduceEqDiff, Nat.reduceBEq, Nat.reduceAdd, Nat.reduceLeDiff, Nat.reduceSub, Nat.reduceMul, Int.reduceToNat, List.size_toArray, tyF, MM, bu0, ipure, kpure, tpure, sspure, kset, tset, ksnoc, tsnoc, Kind.av, Twist.sl, Twist.tr, Invar.av, stsize, stget, sttl, stapp, stext, tsspure, Model.sl, Model.tr, vset, vsnoc, vpure, Puzz.sl, Puzz.tr, f14, f13, f12, f7, f1, m22]
theorem iEffect (p : Puzz) (w : List Int) (hp : genOk p.n p.mv) (hw : wordOk p.mv.length w) : SpecAt Try.prog 112 [p.sl, isl w] (itr (effK p.n p.mv w w.length)) := by
  obtain ⟨pn, nm, mv⟩ := p
  have hn := hp.1
  simp only at hn
  obtain ⟨n, rfl⟩ : ∃ n : Nat, pn = n := ⟨pn.toNat, by omega⟩
  have h1 := iEvaluate n mv w hp hw
  refine spec_of_awp (M := MM) (np := 2) (fz := false) mixed Try.func112 rfl rfl (by decide) rfl (Nat.le_refl _) (by decide +kernel) (.inl rfl) (by first | trivial | simp only [sigsOk_nil, sigsOk_some, sigsOk_none, sig_tr, sig_pt, sig_mt, sig_agg, List.map_cons, List.map_nil, sig1_tr, sig1_pt, sig1_v, and_self, true_and, List.length_map, List.length_set]) ?_
  simp -dsimp -implicitDefEqProofs (disch := first | omega | (simp only [lenr]; done) | (simp only [lenr]; omega)) only [↓amPre, amAll, ↓reduceIte, reduceCtorEq, Nat.reduceEqDiff, Nat.reduceBEq, Nat.reduceAdd, Nat.reduceLeDiff, Nat.reduceSub, Nat.reduceMul, Int.reduceToNat, List.size_toArray, tyF, MM, bu0, ipure, kpure, tpure, sspure, kset, tset, ksnoc, tsnoc, Kind.av, Twist.sl, Twist.tr, Invar.av, stsize, stget, sttl, stapp, stext, tsspure, Model.sl, Model.tr, vset, vsnoc, vpure, Puzz.sl, Puzz.tr]
  refine callP_of (h1) ?_
  simp -dsimp -implicitDefEqProofs (disch := first | omega | (simp only [lenr]; done) | (simp only [lenr]; omega)) only [↓amPre, amAll, ↓reduceIte, reduceCtorEq, Nat.reduceEqDiff, Nat.reduceBEq, Nat.reduceAdd, Nat.reduceLeDiff, Nat.reduceSub, Nat.reduceMul, Int.reduceToNat, List.size_toArray, tyF, MM, bu0, ipure, kpure, tpure, sspure, kset, tset, ksnoc, tsnoc, Kind.av, Twist.sl, Twist.tr, Invar.av, stsize, stget, sttl, stapp, stext, tsspure, Model.sl, Model.tr, vset, vsnoc, vpure, Puzz.sl, Puzz.tr]
theorem iSupport (p : List Int) (hp : isPerm p) : SpecAt Try.prog 136 [isl p] (itr (movL p p.length)) := by
  have h1 := iIsPerm p (by have := hp.1.2; omega)
  have hp20 := hp.1.2
  have hi := imgL_le p p.length
  have hs := srt_img hp
  have h2 := sortI (imgL p p.length) (by omega)
  rw [hs] at h2
  have hsl : (imgL p p.length).length = (movL p p.length).length := by rw [← hs, srt_len]
  refine spec_of_awp (M := MM) (np := 1) (fz := false) mixed Try.func136 rfl rfl (by decide) rfl (Nat.le_refl _) (by decide +kernel) (.inl rfl) (by first | trivial | simp only [sigsOk_nil, sigsOk_some, sigsOk_none, sig_tr, sig_pt, sig_mt, sig_agg, List.map_cons, List.map_nil, sig1_tr, sig1_pt, sig1_v, and_self, true_and, List.length_map, List.length_set]) ?_
  simp -dsimp -implicitDefEqProofs (disch := first | omega | (simp only [lenr]; done) | (simp only [lenr]; omega)) only [↓amPre, amAll, ↓reduceIte, reduceCtorEq, Nat.reduceEqDiff, Nat.reduceBEq, Nat.reduceAdd, Nat.reduceLeDiff, Nat.reduceSub, Nat.reduceMul, Int.reduceToNat, List.size_toArray, tyF, MM, bu0, ipure, kpure, tpure, sspure, kset, tset, ksnoc, tsnoc, Kind.av, Twist.sl, Twist.tr, Invar.av, stsize, stget, sttl, stapp, stext, tsspure, Model.sl, Model.tr, vset, vsnoc, vpure, Puzz.sl, Puzz.tr]
  refine callP_of (h1) ?_
  simp -dsimp -implicitDefEqProofs (disch := first | omega | (simp only [lenr]; done) | (simp only [lenr]; omega)) only [↓amPre, amAll, ↓reduceIte, reduceCtorEq, Nat.reduceEqDiff, Nat.reduceBEq, Nat.reduceAdd, Nat.reduceLeDiff, Nat.reduceSub, Nat.reduceMul, Int.reduceToNat, List.size_toArray, tyF, MM, bu0, ipure, kpure, tpure, sspure, kset, tset, ksnoc, tsnoc, Kind.av, Twist.sl, Twist.tr, Invar.av, stsize, stget, sttl, stapp, stext, tsspure, Model.sl, Model.tr, vset, vsnoc, vpure, Puzz.sl, Puzz.tr, decide_eq_true hp]
  refine awp_loopN 3 22 1 (by simp -dsimp -implicitDefEqProofs (disch := first | omega | (simp only [lenr]; done) | (simp only [lenr]; omega)) only [↓amPre, amAll, ↓reduceIte, reduceCtorEq, Nat.reduceEqDiff, Nat.reduceBEq, Nat.reduceAdd, Nat.reduceLeDiff, Nat.reduceSub, Nat.reduceMul, Int.reduceToNat, List.size_toArray, tyF, MM, bu0, ipure, kpure, tpure, sspure, kset, tset, ksnoc, tsnoc, Kind.av, Twist.sl, Twist.tr, Invar.av, stsize, stget, sttl, stapp, stext, tsspure, Model.sl, Model.tr, vset, vsnoc, vpure, Puzz.sl, Puzz.tr]) (by decide) (fun k st => k ≤ p.length ∧ st.fr 11 = .i64 k ∧ st.fr 10 = .i64 p.length ∧ st.fr 9 = isl p ∧ st.fr 3 = .ref 22 [] 1 0 (imgL p k).length ∧ st.mem 22 = some (itr (imgL p k))) (p.length) ?_ ?_
  · simp -dsimp -implicitDefEqProofs (disch := first | omega | (simp only [lenr]; done) | (simp only [lenr]; omega)) only [↓amPre, amAll, ↓reduceIte, reduceCtorEq, Nat.reduceEqDiff, Nat.reduceBEq, Nat.reduceAdd, Nat.reduceLeDiff, Nat.reduceSub, Nat.reduceMul, Int.reduceToNat, List.size_toArray, tyF, MM, bu0, ipure, kpure, tpure, sspure, kset, tset, ksnoc, tsnoc, Kind.av, Twist.sl, Twist.tr, Invar.av, stsize, stget, sttl, stapp, stext, tsspure, Model.sl, Model.tr, vset, vsnoc, vpure, Puzz.sl, Puzz.tr, nilAs_eq]
    simp [imgL]
  rintro k st _ ⟨hk, f11, f10, f9, f3, m22⟩
  have hls := imgL_succ p k
  have hle := imgL_le p k
  by_cases hlt : k < p.length
  · have hg := perm_get hp hlt
    by_cases c : p.getD k 0 = k
    · rw [if_pos c] at hls
      simp -dsimp -implicitDefEqProofs (disch := first | omega | (simp only [lenr]; done) | (simp only [lenr]; omega)) only [↓amPre, amAll, ↓reduceIte, reduceCtorEq, Nat.reduceEqDiff, Nat.reduceBEq, Nat.reduceAdd, Nat.reduceLeDiff, Nat.reduceSub, Nat.reduceMul, Int.reduceToNat, List.size_toArray, tyF, MM, bu0, ipure, kpure, tpure, sspure, kset, tset, ksnoc, tsnoc, Kind.av, Twist.sl, Twist.tr, Invar.av, stsize, stget, sttl, stapp, stext, tsspure, Model.sl, Model.tr, vset, vsnoc, vpure, Puzz.sl, Puzz.tr, f11, f10, f9, f3, m22, c, hls]
      repeat' (first | omega | rfl | exact i64c (by omega) | exact vic (by omega) | apply And.intro)
    · rw [if_neg c] at hls
      have hl2 : (imgL p (k + 1)).length = (imgL p k).length + 1 := by rw [hls]; simp
      have c2 : ¬ (k : Int) = p.getD k 0 := fun e => c e.symm
      simp -dsimp -implicitDefEqProofs (disch := first | omega | (simp only [lenr]; done) | (simp only [lenr]; omega)) only [↓amPre, amAll, ↓reduceIte, reduceCtorEq, Nat.reduceEqDiff, Nat.reduceBEq, Nat.reduceAdd, Nat.reduceLeDiff, Nat.reduceSub, Nat.reduceMul, Int.reduceToNat, List.size_toArray, tyF, MM, bu0, ipure, kpure, tpure, sspure, kset, tset, ksnoc, tsnoc, Kind.av, Twist.sl, Twist.tr, Invar.av, stsize, stget, sttl, stapp, stext, tsspure, Model.sl, Model.tr, vset, vsnoc, vpure, Puzz.sl, Puzz.tr, f11, f10, f9, f3, m22, c2, ← hls, ← hl2]
      repeat' (first | omega | rfl | exact i64c (by omega) | exact vic (by omega) | apply And.intro)
  · have hke : k = p.length := by omega
    subst hke
    simp -dsimp -implicitDefEqProofs (disch := first | omega | (simp only [lenr]; done) | (simp only [lenr]; omega)) only [↓amPre, amAll, ↓reduceIte, reduceCtorEq, Nat.reduceEqDiff, Nat.reduceBEq, Nat.reduceAdd, Nat.reduceLeDiff, Nat.reduceSub, Nat.reduceMul, Int.reduceToNat, List.size_toArray, tyF, MM, bu0, ipure, kpure, tpure, sspure, kset, tset, ksnoc, tsnoc, Kind.av, Twist.sl, Twist.tr, Invar.av, stsize, stget, sttl, stapp, stext, tsspure, Model.sl, Model.tr, vset, vsnoc, vpure, Puzz.sl, Puzz.tr, f11, f10, f9, f3, m22]
    refine callX_of (h2) ?_
    simp -dsimp -implicitDefEqProofs (disch := first | omega | (simp only [lenr]; done) | (simp only [lenr]; omega)) only [↓amPre, amAll, ↓reduceIte, reduceCtorEq, Nat.reduceEqDiff, Nat.reduceBEq, Nat.reduceAdd, Nat.reduceLeDiff, Nat.reduceSub, Nat.reduceMul, Int.reduceToNat, List.size_toArray, tyF, MM, bu0, ipure, kpure, tpure, sspure, kset, tset, ksnoc, tsnoc, Kind.av, Twist.sl, Twist.tr, Invar.av, stsize, stget, sttl, stapp, stext, tsspure, Model.sl, Model.tr, vset, vsnoc, vpure, Puzz.sl, Puzz.tr, f11, f10, f9, f3, m22, hsl]
end Go.AM
set_option maxRecDepth 8000
namespace Go.AM
open Go.Proofs
def supR (p : Puzz) (w : List Int) : List Int := if puzzOk p ∧ wordOk p.mv.length w then movL (effK p.n p.mv w w.length) p.n.toNat else []
theorem cnts_sizeI : ∀ l : List (List Int), cnts l + l.length = sizeI l
  | [] => rfl
  | a :: r => by have := cnts_sizeI r; simp only [cnts, sizeI, List.length_cons, cnt_ints]; omega
theorem markInt64SS (l : List (List Int)) (k : Int) (h0 : 0 ≤ k) (h1 : k + cnts l ≤ 1099511627776) (hl : smallSS l) : SpecX Try.prog 45 [sst l, .i64 k] [some (sst (mks k l))] (.i64 (k + cnts l)) := by
  have hl0 := hl.1
  refine spec_of_awp (M := MM) (np := 2) (fz := false) mixed Try.func45 rfl rfl (by decide) rfl (Nat.le_refl _) (by decide +kernel) (.inl rfl) (by simp only [sigsOk_some, sigsOk_nil, sig_tr, List.length_map, mks_len, and_self]) ?_
  simp -dsimp -implicitDefEqProofs (disch := first | omega | (simp only [lenr]; done) | (simp only [lenr]; omega)) only [↓amPre, amAll, ↓reduceIte, reduceCtorEq, Nat.reduceEqDiff, Nat.reduceBEq, Nat.reduceAdd, Nat.reduceLeDiff, Nat.reduceSub, Nat.reduceMul, Int.reduceToNat, List.size_toArray, tyF, MM, bu0, ipure, kpure, tpure, sspure, kset, tset, ksnoc, tsnoc, Kind.av, Twist.sl, Twist.tr, Invar.av, stsize, stget, sttl, stapp, stext, tsspure, Model.sl, Model.tr, vset, vsnoc, vpure, Puzz.sl, Puzz.tr]
  have hr := mks_len k l
  refine awp_loop (fun j st => j ≤ l.length ∧ st.fr 5 = .i64 j ∧ st.fr 1 = .i64 (k + cnts (l.take j)) ∧ st.fr 0 = .ref 0 [] 1 0 l.length ∧ st.mem 0 = some (sst (mixL (mks k l) l j))) (l.length) ?_ ?_
  · simp -dsimp -implicitDefEqProofs (disch := first | omega | (simp only [lenr]; done) | (simp only [lenr]; omega)) only [↓amPre, amAll, ↓reduceIte, reduceCtorEq, Nat.reduceEqDiff, Nat.reduceBEq, Nat.reduceAdd, Nat.reduceLeDiff, Nat.reduceSub, Nat.reduceMul, Int.reduceToNat, List.size_toArray, tyF, MM, bu0, ipure, kpure, tpure, sspure, kset, tset, ksnoc, tsnoc, Kind.av, Twist.sl, Twist.tr, Invar.av, stsize, stget, sttl, stapp, stext, tsspure, Model.sl, Model.tr, vset, vsnoc, vpure, Puzz.sl, Puzz.tr, mixL_zero]
    simp [cnts]
  rintro j st _ ⟨hj, f5, f1, f0, m0⟩
  have hml := mixL_len (mks k l) l j hr
  by_cases hlt : j < l.length
  · have hs := mixL_set (mks k l) l j default hr hlt
    have hg := mixL_get (mks k l) l j default hr hlt
    rw [mks_get _ _ _ hlt, mk_ints] at hs
    have ct := cnts_take l j hlt
    have cl := cnts_le1 l j hlt
    rw [cnt_ints] at ct cl
    simp -dsimp -implicitDefEqProofs (disch := first | omega | (simp only [lenr]; done) | (simp only [lenr]; omega)) only [↓amPre, amAll, ↓reduceIte, reduceCtorEq, Nat.reduceEqDiff, Nat.reduceBEq, Nat.reduceAdd, Nat.reduceLeDiff, Nat.reduceSub, Nat.reduceMul, Int.reduceToNat, List.size_toArray, tyF, MM, bu0, ipure, kpure, tpure, sspure, kset, tset, ksnoc, tsnoc, Kind.av, Twist.sl, Twist.tr, Invar.av, stsize, stget, sttl, stapp, stext, tsspure, Model.sl, Model.tr, vset, vsnoc, vpure, Puzz.sl, Puzz.tr, f5, f1, f0, m0, hml, hg]
    refine callX_of (markInt64S (l.getD j default) _ (by omega) (by omega) (by omega)) ?_
    simp -dsimp -implicitDefEqProofs (disch := first | omega | (simp only [lenr]; done) | (simp only [lenr]; omega)) only [↓amPre, amAll, ↓reduceIte, reduceCtorEq, Nat.reduceEqDiff, Nat.reduceBEq, Nat.reduceAdd, Nat.reduceLeDiff, Nat.reduceSub, Nat.reduceMul, Int.reduceToNat, List.size_toArray, tyF, MM, bu0, ipure, kpure, tpure, sspure, kset, tset, ksnoc, tsnoc, Kind.av, Twist.sl, Twist.tr, Invar.av, stsize, stget, sttl, stapp, stext, tsspure, Model.sl, Model.tr, vset, vsnoc, vpure, Puzz.sl, Puzz.tr, f5, f1, f0, m0, hml, hg, hs, runI_len]
    repeat' (first | omega | rfl | exact i64c (by omega) | exact vic (by omega) | apply And.intro)
  · have hj' : j = l.length := by omega
    subst hj'
    have := mixL_all (mks k l) l l.length (by omega) (by omega)
    simp -dsimp -implicitDefEqProofs (disch := first | omega | (simp only [lenr]; done) | (simp only [lenr]; omega)) only [↓amPre, amAll, ↓reduceIte, reduceCtorEq, Nat.reduceEqDiff, Nat.reduceBEq, Nat.reduceAdd, Nat.reduceLeDiff, Nat.reduceSub, Nat.reduceMul, Int.reduceToNat, List.size_toArray, tyF, MM, bu0, ipure, kpure, tpure, sspure, kset, tset, ksnoc, tsnoc, Kind.av, Twist.sl, Twist.tr, Invar.av, stsize, stget, sttl, stapp, stext, tsspure, Model.sl, Model.tr, vset, vsnoc, vpure, Puzz.sl, Puzz.tr, f5, f1, f0, m0, hml, this, List.take_length]
theorem markPuzzle (p : Puzz) (k : Int) (h0 : 0 ≤ k) (h1 : k + cnts p.mv ≤ 1099511627776) (h : smallP p) : SpecX Try.prog 24 [p.tr, .i64 k] [] (.i64 (k + cnts p.mv)) := by
  refine spec_of_awp (M := MM) (np := 2) (fz := false) mixed Try.func24 rfl rfl (by decide) rfl (Nat.le_refl _) (by decide +kernel) (.inl rfl) (by first | trivial | simp only [sigsOk_nil, sigsOk_some, sigsOk_none, sig_tr, sig_pt, sig_mt, sig_agg, List.map_cons, List.map_nil, sig1_tr, sig1_pt, sig1_v, and_self, true_and, List.length_map, List.length_set]) ?_
  simp -dsimp -implicitDefEqProofs (disch := first | omega | (simp only [lenr]; done) | (simp only [lenr]; omega)) only [↓amPre, amAll, ↓reduceIte, reduceCtorEq, Nat.reduceEqDiff, Nat.reduceBEq, Nat.reduceAdd, Nat.reduceLeDiff, Nat.reduceSub, Nat.reduceMul, Int.reduceToNat, List.size_toArray, tyF, MM, bu0, ipure, kpure, tpure, sspure, kset, tset, ksnoc, tsnoc, Kind.av, Twist.sl, Twist.tr, Invar.av, stsize, stget, sttl, stapp, stext, tsspure, Model.sl, Model.tr, vset, vsnoc, vpure, Puzz.sl, Puzz.tr]
  refine callX_of (markInt64SS p.mv _ h0 h1 h.2.2) ?_
  simp -dsimp -implicitDefEqProofs (disch := first | omega | (simp only [lenr]; done) | (simp only [lenr]; omega)) only [↓amPre, amAll, ↓reduceIte, reduceCtorEq, Nat.reduceEqDiff, Nat.reduceBEq, Nat.reduceAdd, Nat.reduceLeDiff, Nat.reduceSub, Nat.reduceMul, Int.reduceToNat, List.size_toArray, tyF, MM, bu0, ipure, kpure, tpure, sspure, kset, tset, ksnoc, tsnoc, Kind.av, Twist.sl, Twist.tr, Invar.av, stsize, stget, sttl, stapp, stext, tsspure, Model.sl, Model.tr, vset, vsnoc, vpure, Puzz.sl, Puzz.tr, mks_len]
end Go.AM
set_option maxRecDepth 8000
namespace Go.AM
open Go.Proofs
def canScr (p : Puzz) (x c : Int) : Prop := puzzOk p ∧ within x 0 2147483646 = true ∧ within c 0 200 = true
instance (p : Puzz) (x c : Int) : Decidable (canScr p x c) := by unfold canScr; infer_instance
def scrR (p : Puzz) (x c : Int) : List Int := if canScr p x c then scrW p.mv.length x c.toNat else []
end Go.AM
set_option maxRecDepth 8000
namespace Go.AM
open Go.Proofs
def pwL (e : List Int) (k : Nat) : List Int := (List.range e.length).map fun x => ((itN (fOf e) k x : Nat) : Int)
def lcmK (L : List (List Int)) : Nat → Nat
  | 0 => 1
  | j + 1 => Nat.lcm (lcmK L j) (L.getD j default).length
def ordE (e : List Int) : Nat := lcmK (longC (cycI e)) (longC (cycI e)).length
def spK (e : List Int) : Nat → Nat × Nat
  | 0 => (0, 0)
  | j + 1 => if (spK e j).1 = 0 ∨ (movL (pwL e (j + 1)) e.length).length < (spK e j).2 then (j + 1, (movL (pwL e (j + 1)) e.length).length) else spK e j
end Go.AM
set_option maxRecDepth 8000
namespace Go.AM
open Go.Proofs
def treeGcd : OT := (.alt 0 (.alt 1 (.alt 2 (.alt 3 (.alt 4 (.alt 5 .done .stop) .stop) (.alt 4 (.alt 3 (.alt 5 .done .stop) .stop) .stop)) (.alt 4 (.alt 2 (.alt 3 (.alt 5 .done .stop) .stop) .stop) .stop)) (.alt 2 (.alt 1 (.alt 3 (.alt 4 (.alt 5 .done .stop) .stop) (.alt 4 (.alt 3 (.alt 5 .done .stop) .stop) .stop)) .stop) .stop)) (.alt 1 (.alt 0 (.alt 2 (.alt 3 (.alt 4 (.alt 5 .done .stop) .stop) (.alt 4 (.alt 3 (.alt 5 .done .stop) .stop) .stop)) (.alt 4 (.alt 2 (.alt 3 (.alt 5 .done .stop) .stop) .stop) .stop)) (.alt 2 (.alt 0 (.alt 3 (.alt 4 (.alt 5 .done .stop) .stop) (.alt 4 (.alt 3 (.alt 5 .done .stop) .stop) .stop)) (.alt 3 (.alt 0 (.alt 4 (.alt 5 .done .stop) .stop) .stop) .stop)) .stop)) (.alt 2 (.alt 0 (.alt 1 (.alt 3 (.alt 4 (.alt 5 .done .stop) .stop) (.alt 4 (.alt 3 (.alt 5 .done .stop) .stop) .stop)) .stop) (.alt 1 (.alt 0 (.alt 3 (.alt 4 (.alt 5 .done .stop) .stop) (.alt 4 (.alt 3 (.alt 5 .done .stop) .stop) .stop)) (.alt 3 (.alt 0 (.alt 4 (.alt 5 .done .stop) .stop) .stop) .stop)) .stop)) .stop)))
def gcK (a b : Nat) : Nat → Nat × Nat
  | 0 => (a, b)
  | k + 1 => ((gcK a b k).2, (gcK a b k).1 % (gcK a b k).2)
end Go.AM
set_option maxRecDepth 8000
namespace Go.AM
open Go.Proofs
def spR (p : Puzz) (w : List Int) : Nat × Nat := if puzzOk p ∧ wordOk p.mv.length w then spK (effK p.n p.mv w w.length) (ordE (effK p.n p.mv w w.length) - 1) else (0, 0)
abbrev spA (x : Nat × Nat) : AV := .tup [.i64 x.1, .i64 x.2]
end Go.AM
set_option maxRecDepth 8000
namespace Go.AM
open Go.Proofs
def consM (m : Model) (i : Invar) : Prop := modelOk m ∧ ∀ s ∈ m.mv, invV m.ks s i = 0
instance (m : Model) (i : Invar) : Decidable (consM m i) := by unfold consM; infer_instance
def trivK (ks : List Kind) (set : Int) : Nat → Bool
  | 0 => true
  | k + 1 => trivK ks set k && !(bitK set k && decide (1 < (ks.getD k default).c))
def trivI (ks : List Kind) (i : Invar) : Bool := if i.k = 1 then decide ((ks.getD i.s.toNat default).o = 1) else trivK ks i.s ks.length
end Go.AM
set_option maxRecDepth 8000
namespace Go.AM
open Go.Proofs
def keepI (m : Model) (i : Invar) : Bool := !trivI m.ks i && decide (consM m i)
def allI (ks : List Kind) : List Invar := twL ks.length ++ paL (2 ^ ks.length - 1)
def consL (m : Model) : List Invar := (allI m.ks).filter (keepI m)
def consR (m : Model) : List Invar := if modelOk m then consL m else []
end Go.AM
set_option maxRecDepth 8000
namespace Go.AM
open Go.Proofs
def vioO (m : Model) (s : List Twist) : Option Invar := if psOk m.ks s then (consR m).find? (fun i => invV m.ks s i != 0) else none
def vioR (o : Option Invar) : AV := match o with | some i => .tup [i.av, .bl true] | none => .tup [(⟨0, 0⟩ : Invar).av, .bl false]
end Go.AM
set_option maxRecDepth 8000
namespace Go.AM
open Go.Proofs
theorem sEqualInts (a b : List Int) (ha : a.length ≤ 1099511627776) : SpecAt Try.prog 100 [isl a, isl b] (.bl (decide (a = b))) := by
  refine spec_of_awp (M := MM) (np := 2) (fz := true) mixed Try.func100 rfl rfl (by decide) rfl (Nat.le_refl _) (by decide +kernel) (.inr ⟨rfl, rfl⟩) trivial ?_
  simp -dsimp -implicitDefEqProofs (disch := first | omega | (simp only [lenr]; done) | (simp only [lenr]; omega)) only [↓amPre, amAll, ↓reduceIte, reduceCtorEq, Nat.reduceEqDiff, Nat.reduceBEq, Nat.reduceAdd, Nat.reduceLeDiff, Nat.reduceSub, Nat.reduceMul, Int.reduceToNat, List.size_toArray, tyF, MM, bu0, ipure, kpure, tpure, sspure, kset, tset, ksnoc, tsnoc, Kind.av, Twist.sl, Twist.tr, Invar.av, stsize, stget, sttl, stapp, stext, tsspure, Model.sl, Model.tr, vset, vsnoc, vpure]
  refine ifP_mk ?_ ?_ <;> intro h1
  · simp -dsimp -implicitDefEqProofs (disch := first | omega | (simp only [lenr]; done) | (simp only [lenr]; omega)) only [↓amPre, amAll, ↓reduceIte, reduceCtorEq, Nat.reduceEqDiff, Nat.reduceBEq, Nat.reduceAdd, Nat.reduceLeDiff, Nat.reduceSub, Nat.reduceMul, Int.reduceToNat, List.size_toArray, tyF, MM, bu0, ipure, kpure, tpure, sspure, kset, tset, ksnoc, tsnoc, Kind.av, Twist.sl, Twist.tr, Invar.av, stsize, stget, sttl, stapp, stext, tsspure, Model.sl, Model.tr, vset, vsnoc, vpure, h1]
    have : ¬ a = b := by intro e; subst e; simp at h1
    simp [this]
  simp -dsimp -implicitDefEqProofs (disch := first | omega | (simp only [lenr]; done) | (simp only [lenr]; omega)) only [↓amPre, amAll, ↓reduceIte, reduceCtorEq, Nat.reduceEqDiff, Nat.reduceBEq, Nat.reduceAdd, Nat.reduceLeDiff, Nat.reduceSub, Nat.reduceMul, Int.reduceToNat, List.size_toArray, tyF, MM, bu0, ipure, kpure, tpure, sspure, kset, tset, ksnoc, tsnoc, Kind.av, Twist.sl, Twist.tr, Invar.av, stsize, stget, sttl, stapp, stext, tsspure, Model.sl, Model.tr, vset, vsnoc, vpure, h1]
  have hab : a.length = b.length := by simp at h1; omega
  refine awp_loop (fun k st => k ≤ a.length ∧ st.fr 5 = .i64 k ∧ st.fr 0 = isl a ∧ st.fr 1 = isl b ∧ a.take k = b.take k) (a.length) ?_ ?_
  · simp -dsimp -implicitDefEqProofs (disch := first | omega | (simp only [lenr]; done) | (simp only [lenr]; omega)) only [↓amPre, amAll, ↓reduceIte, reduceCtorEq, Nat.reduceEqDiff, Nat.reduceBEq, Nat.reduceAdd, Nat.reduceLeDiff, Nat.reduceSub, Nat.reduceMul, Int.reduceToNat, List.size_toArray, tyF, MM, bu0, ipure, kpure, tpure, sspure, kset, tset, ksnoc, tsnoc, Kind.av, Twist.sl, Twist.tr, Invar.av, stsize, stget, sttl, stapp, stext, tsspure, Model.sl, Model.tr, vset, vsnoc, vpure]
    repeat' (first | omega | rfl | exact i64c (by omega) | exact vic (by omega) | apply And.intro)
  rintro k st _ ⟨hk, f5, f0, f1, ek⟩
  by_cases hlt : k < a.length
  · simp -dsimp -implicitDefEqProofs (disch := first | omega | (simp only [lenr]; done) | (simp only [lenr]; omega)) only [↓amPre, amAll, ↓reduceIte, reduceCtorEq, Nat.reduceEqDiff, Nat.reduceBEq, Nat.reduceAdd, Nat.reduceLeDiff, Nat.reduceSub, Nat.reduceMul, Int.reduceToNat, List.size_toArray, tyF, MM, bu0, ipure, kpure, tpure, sspure, kset, tset, ksnoc, tsnoc, Kind.av, Twist.sl, Twist.tr, Invar.av, stsize, stget, sttl, stapp, stext, tsspure, Model.sl, Model.tr, vset, vsnoc, vpure, f5, f0, f1]
    refine ifP_mk ?_ ?_ <;> intro w1
    · simp -dsimp -implicitDefEqProofs (disch := first | omega | (simp only [lenr]; done) | (simp only [lenr]; omega)) only [↓amPre, amAll, ↓reduceIte, reduceCtorEq, Nat.reduceEqDiff, Nat.reduceBEq, Nat.reduceAdd, Nat.reduceLeDiff, Nat.reduceSub, Nat.reduceMul, Int.reduceToNat, List.size_toArray, tyF, MM, bu0, ipure, kpure, tpure, sspure, kset, tset, ksnoc, tsnoc, Kind.av, Twist.sl, Twist.tr, Invar.av, stsize, stget, sttl, stapp, stext, tsspure, Model.sl, Model.tr, vset, vsnoc, vpure, f5, f0, f1, w1]
      have hne : ¬ a = b := by
        intro e; subst e; simp at w1
      simp [hne]
    · simp -dsimp -implicitDefEqProofs (disch := first | omega | (simp only [lenr]; done) | (simp only [lenr]; omega)) only [↓amPre, amAll, ↓reduceIte, reduceCtorEq, Nat.reduceEqDiff, Nat.reduceBEq, Nat.reduceAdd, Nat.reduceLeDiff, Nat.reduceSub, Nat.reduceMul, Int.reduceToNat, List.size_toArray, tyF, MM, bu0, ipure, kpure, tpure, sspure, kset, tset, ksnoc, tsnoc, Kind.av, Twist.sl, Twist.tr, Invar.av, stsize, stget, sttl, stapp, stext, tsspure, Model.sl, Model.tr, vset, vsnoc, vpure, f5, f0, f1, w1]
      simp only [bne_eq_false_iff_eq] at w1
      repeat' (first | omega | rfl | exact i64c (by omega) | exact vic (by omega) | exact (take_eq_iff 0 k hlt (by omega)).2 ⟨ek, w1⟩ | apply And.intro)
  · have hke : k = a.length := by omega
    subst hke
    simp -dsimp -implicitDefEqProofs (disch := first | omega | (simp only [lenr]; done) | (simp only [lenr]; omega)) only [↓amPre, amAll, ↓reduceIte, reduceCtorEq, Nat.reduceEqDiff, Nat.reduceBEq, Nat.reduceAdd, Nat.reduceLeDiff, Nat.reduceSub, Nat.reduceMul, Int.reduceToNat, List.size_toArray, tyF, MM, bu0, ipure, kpure, tpure, sspure, kset, tset, ksnoc, tsnoc, Kind.av, Twist.sl, Twist.tr, Invar.av, stsize, stget, sttl, stapp, stext, tsspure, Model.sl, Model.tr, vset, vsnoc, vpure, f5, f0, f1]
    simp [eq_of_takes hab ek]
end Go.AM
set_option maxRecDepth 8000
namespace Go.AM
open Go.Proofs
def pwK (p : List Int) (k i : Nat) : List Int := (List.range i).map fun x => ((itN (fOf p) k x : Nat) : Int)
end Go.AM
set_option maxRecDepth 8000
namespace Go.AM
open Go.Proofs
def scrS (p : Puzz) (x c : Int) : List Int := if canScr p x c then effK p.n p.mv (scrR p x c) (scrR p x c).length else []
end Go.AM
namespace Go.AM
/-! keys of states: their bytes -/
def skey (s : List Int) : ByteArray := pushB s
theorem pushB_go : ∀ (s : List Int) (r : ByteArray), s.foldl (fun r n => r.push (UInt8.ofNat n.toNat)) r = ⟨r.data ++ (s.map fun n => UInt8.ofNat n.toNat).toArray⟩
  | [], r => by cases r; simp
  | a :: l, r => by
    rw [List.foldl_cons, pushB_go l]
    cases r
    simp [ByteArray.push]
theorem skey_eq (s : List Int) : skey s = ⟨(s.map fun n => UInt8.ofNat n.toNat).toArray⟩ := by
  unfold skey pushB
  rw [pushB_go]
  congr 1
  show (#[] : Array UInt8) ++ _ = _
  simp
def smallE (s : List Int) : Prop := ∀ x ∈ s, 0 ≤ x ∧ x < 256
theorem map_inj_on {α β : Type} (f : α → β) : ∀ (a b : List α), (∀ x ∈ a, ∀ y ∈ b, f x = f y → x = y) → a.map f = b.map f → a = b
  | [], [], _, _ => rfl
  | [], _ :: _, _, h => by simp at h
  | _ :: _, [], _, h => by simp at h
  | x :: a, y :: b, hf, h => by
    simp only [List.map_cons, List.cons.injEq] at h
    rw [hf x (by simp) y (by simp) h.1, map_inj_on f a b (fun u hu v hv => hf u (by simp [hu]) v (by simp [hv])) h.2]
theorem skey_inj {a b : List Int} (ha : smallE a) (hb : smallE b) (h : skey a = skey b) : a = b := by
  rw [skey_eq, skey_eq] at h
  injection h with h
  have h2 : (a.map fun n => UInt8.ofNat n.toNat) = b.map fun n => UInt8.ofNat n.toNat := by
    have := congrArg Array.toList h
    simpa using this
  refine map_inj_on _ a b (fun x hx y hy e => ?_) h2
  have h3 := ha x hx
  have h4 := hb y hy
  have h5 := congrArg UInt8.toNat e
  simp at h5
  omega
open Classical in
noncomputable def seenM (S : List (List Int)) : Value → Option Value := fun v => if ∃ s ∈ S, v = .string (skey s) then some (.bool true) else none
theorem seenM_nil : seenM [] = fun _ => none := by
  funext v; unfold seenM
  rw [if_neg]; rintro ⟨s, h, _⟩; cases h
theorem seenM_upd (S : List (List Int)) (s : List Int) : updM (seenM S) (.string (skey s)) (.bool true) = seenM (S ++ [s]) := by
  funext v; unfold updM seenM
  by_cases h : v = .string (skey s)
  · rw [if_pos h, if_pos]; exact ⟨s, by simp, h⟩
  · rw [if_neg h]
    by_cases h2 : ∃ t ∈ S, v = .string (skey t)
    · rw [if_pos h2, if_pos]
      obtain ⟨t, ht, e⟩ := h2
      exact ⟨t, by simp [ht], e⟩
    · rw [if_neg h2, if_neg]
      rintro ⟨t, ht, e⟩
      rcases List.mem_append.1 ht with ht | ht
      · exact h2 ⟨t, ht, e⟩
      · rw [List.mem_singleton] at ht; subst ht; exact h e
theorem seenM_at {S : List (List Int)} (hS : ∀ s ∈ S, smallE s) {s : List Int} (hs : smallE s) : seenM S (.string (skey s)) = if s ∈ S then some (.bool true) else none := by
  unfold seenM
  by_cases h : s ∈ S
  · rw [if_pos h, if_pos]; exact ⟨s, h, rfl⟩
  · rw [if_neg h, if_neg]
    rintro ⟨t, ht, e⟩
    injection e with e
    rw [skey_inj hs (hS t ht) e] at h; exact h ht
def ixK (L : List (List Int)) (s : List Int) : Int := if s ∈ L then (L.idxOf s : Nat) else -1
end Go.AM
set_option maxRecDepth 8000
namespace Go.AM
open Go.Proofs
theorem keyB_str (s : ByteArray) : keyB true (.string s) = true := rfl
theorem keyB_int (n : Int) : keyB false (.int .i64 n) = true := rfl
theorem u8_all : ∀ l : List Int, (l.map AV.u8).all isU8 = true
  | [] => rfl
  | a :: l => by rw [List.map_cons, List.all_cons, u8_all l]; rfl
theorem u8_bytes : ∀ l : List Int, (l.map AV.u8).map byteV = l
  | [] => rfl
  | a :: l => by rw [List.map_cons, List.map_cons, u8_bytes l]; rfl
theorem u8_rep (n : Nat) (x : Int) : List.replicate n (AV.v (.int .u8 x)) = (List.replicate n x).map AV.u8 := by simp
theorem stateKeyI (s : List Int) (hs : smallE s) (hl : s.length ≤ 1099511627776) : SpecAt Try.prog 116 [isl s] (.v (.string (skey s))) := by
  refine spec_of_awp (M := MM) (np := 1) (fz := true) mixed Try.func116 rfl rfl (by decide) rfl (Nat.le_refl _) (by decide +kernel) (.inr ⟨rfl, rfl⟩) trivial ?_
  simp -dsimp -implicitDefEqProofs (disch := first | omega | (simp only [lenr]; done) | (simp only [lenr]; omega)) only [↓amPre, amAll, ↓reduceIte, reduceCtorEq, Nat.reduceEqDiff, Nat.reduceBEq, Nat.reduceAdd, Nat.reduceLeDiff, Nat.reduceSub, Nat.reduceMul, Int.reduceToNat, List.size_toArray, tyF, MM, bu0, ipure, kpure, tpure, sspure, kset, tset, ksnoc, tsnoc, Kind.av, Twist.sl, Twist.tr, Invar.av, stsize, stget, sttl, stapp, stext, tsspure, Model.sl, Model.tr, vset, vsnoc, vpure, Puzz.sl, Puzz.tr, keyB_str, keyB_int, u8_rep]
  refine awp_loop (fun k st => k ≤ s.length ∧ st.fr 11 = .i64 k ∧ st.fr 10 = .i64 s.length ∧ st.fr 9 = isl s ∧ st.fr 3 = .ref 8 [] 1 0 s.length ∧ st.mem 8 = some (.tr 1 ((mixL s (List.replicate s.length 0) k).map AV.u8))) (s.length) ?_ ?_
  · simp -dsimp -implicitDefEqProofs (disch := first | omega | (simp only [lenr]; done) | (simp only [lenr]; omega)) only [↓amPre, amAll, ↓reduceIte, reduceCtorEq, Nat.reduceEqDiff, Nat.reduceBEq, Nat.reduceAdd, Nat.reduceLeDiff, Nat.reduceSub, Nat.reduceMul, Int.reduceToNat, List.size_toArray, tyF, MM, bu0, ipure, kpure, tpure, sspure, kset, tset, ksnoc, tsnoc, Kind.av, Twist.sl, Twist.tr, Invar.av, stsize, stget, sttl, stapp, stext, tsspure, Model.sl, Model.tr, vset, vsnoc, vpure, Puzz.sl, Puzz.tr, keyB_str, keyB_int, mixL_zero]
    simp
  rintro k st _ ⟨hk, f11, f10, f9, f3, m8⟩
  have hr : s.length = (List.replicate s.length (0:Int)).length := by simp
  have hm := mixL_len s (List.replicate s.length 0) k hr
  by_cases hlt : k < s.length
  · have hx := hs _ (mem_getD s k 0 hlt)
    have hw : IntKind.u8.wrap (s.getD k 0) = s.getD k 0 := IntWalk.u8_in _ (by omega)
    have hset := mixL_set s (List.replicate s.length 0) k 0 hr (by omega)
    simp -dsimp -implicitDefEqProofs (disch := first | omega | (simp only [lenr]; done) | (simp only [lenr]; omega)) only [↓amPre, amAll, ↓reduceIte, reduceCtorEq, Nat.reduceEqDiff, Nat.reduceBEq, Nat.reduceAdd, Nat.reduceLeDiff, Nat.reduceSub, Nat.reduceMul, Int.reduceToNat, List.size_toArray, tyF, MM, bu0, ipure, kpure, tpure, sspure, kset, tset, ksnoc, tsnoc, Kind.av, Twist.sl, Twist.tr, Invar.av, stsize, stget, sttl, stapp, stext, tsspure, Model.sl, Model.tr, vset, vsnoc, vpure, Puzz.sl, Puzz.tr, keyB_str, keyB_int, f11, f10, f9, f3, m8, hm, hset, hw]
    repeat' (first | omega | rfl | exact i64c (by omega) | exact vic (by omega) | apply And.intro)
  · have hk' : k = s.length := by omega
    subst hk'
    have := mixL_all s (List.replicate s.length 0) s.length (by omega) (by simp)
    simp -dsimp -implicitDefEqProofs (disch := first | omega | (simp only [lenr]; done) | (simp only [lenr]; omega)) only [↓amPre, amAll, ↓reduceIte, reduceCtorEq, Nat.reduceEqDiff, Nat.reduceBEq, Nat.reduceAdd, Nat.reduceLeDiff, Nat.reduceSub, Nat.reduceMul, Int.reduceToNat, List.size_toArray, tyF, MM, bu0, ipure, kpure, tpure, sspure, kset, tset, ksnoc, tsnoc, Kind.av, Twist.sl, Twist.tr, Invar.av, stsize, stget, sttl, stapp, stext, tsspure, Model.sl, Model.tr, vset, vsnoc, vpure, Puzz.sl, Puzz.tr, keyB_str, keyB_int, f11, f10, f9, f3, m8, hm, this, u8_all, u8_bytes]
    try rfl
end Go.AM
set_option maxRecDepth 8000
namespace Go.AM
open Go.Proofs
theorem eqMacro (a b : Twist) (h1 : a.to.length ≤ 1099511627776) (h2 : a.by'.length ≤ 1099511627776) : SpecAt Try.prog 58 [a.sl, b.sl] (.bl (decide (a = b))) := by
  refine spec_of_awp (M := MM) (np := 2) (fz := true) mixed Try.func58 rfl rfl (by decide) rfl (Nat.le_refl _) (by decide +kernel) (.inr ⟨rfl, rfl⟩) trivial ?_
  simp -dsimp -implicitDefEqProofs (disch := first | omega | (simp only [lenr]; done) | (simp only [lenr]; omega)) only [↓amPre, amAll, ↓reduceIte, reduceCtorEq, Nat.reduceEqDiff, Nat.reduceBEq, Nat.reduceAdd, Nat.reduceLeDiff, Nat.reduceSub, Nat.reduceMul, Int.reduceToNat, List.size_toArray, tyF, MM, bu0, ipure, kpure, tpure, sspure, kset, tset, ksnoc, tsnoc, Kind.av, Twist.sl, Twist.tr, Invar.av, stsize, stget, sttl, stapp, stext, tsspure, Model.sl, Model.tr, vset, vsnoc, vpure, Puzz.sl, Puzz.tr]
  refine callP_of (eqInt64S _ _ h1) ?_
  obtain ⟨a1, a2⟩ := a
  obtain ⟨b1, b2⟩ := b
  cases c1 : decide (a1 = b1) with
  | false =>
    simp -dsimp -implicitDefEqProofs (disch := first | omega | (simp only [lenr]; done) | (simp only [lenr]; omega)) only [↓amPre, amAll, ↓reduceIte, reduceCtorEq, Nat.reduceEqDiff, Nat.reduceBEq, Nat.reduceAdd, Nat.reduceLeDiff, Nat.reduceSub, Nat.reduceMul, Int.reduceToNat, List.size_toArray, tyF, MM, bu0, ipure, kpure, tpure, sspure, kset, tset, ksnoc, tsnoc, Kind.av, Twist.sl, Twist.tr, Invar.av, stsize, stget, sttl, stapp, stext, tsspure, Model.sl, Model.tr, vset, vsnoc, vpure, Puzz.sl, Puzz.tr, c1]
    simp at c1; simp [c1]
  | true =>
    simp -dsimp -implicitDefEqProofs (disch := first | omega | (simp only [lenr]; done) | (simp only [lenr]; omega)) only [↓amPre, amAll, ↓reduceIte, reduceCtorEq, Nat.reduceEqDiff, Nat.reduceBEq, Nat.reduceAdd, Nat.reduceLeDiff, Nat.reduceSub, Nat.reduceMul, Int.reduceToNat, List.size_toArray, tyF, MM, bu0, ipure, kpure, tpure, sspure, kset, tset, ksnoc, tsnoc, Kind.av, Twist.sl, Twist.tr, Invar.av, stsize, stget, sttl, stapp, stext, tsspure, Model.sl, Model.tr, vset, vsnoc, vpure, Puzz.sl, Puzz.tr, c1]
    refine callP_of (eqInt64S _ _ h2) ?_
    cases c2 : decide (a2 = b2) with
    | false =>
      simp -dsimp -implicitDefEqProofs (disch := first | omega | (simp only [lenr]; done) | (simp only [lenr]; omega)) only [↓amPre, amAll, ↓reduceIte, reduceCtorEq, Nat.reduceEqDiff, Nat.reduceBEq, Nat.reduceAdd, Nat.reduceLeDiff, Nat.reduceSub, Nat.reduceMul, Int.reduceToNat, List.size_toArray, tyF, MM, bu0, ipure, kpure, tpure, sspure, kset, tset, ksnoc, tsnoc, Kind.av, Twist.sl, Twist.tr, Invar.av, stsize, stget, sttl, stapp, stext, tsspure, Model.sl, Model.tr, vset, vsnoc, vpure, Puzz.sl, Puzz.tr, c2]
      simp at c2; simp [c2]
    | true =>
      simp -dsimp -implicitDefEqProofs (disch := first | omega | (simp only [lenr]; done) | (simp only [lenr]; omega)) only [↓amPre, amAll, ↓reduceIte, reduceCtorEq, Nat.reduceEqDiff, Nat.reduceBEq, Nat.reduceAdd, Nat.reduceLeDiff, Nat.reduceSub, Nat.reduceMul, Int.reduceToNat, List.size_toArray, tyF, MM, bu0, ipure, kpure, tpure, sspure, kset, tset, ksnoc, tsnoc, Kind.av, Twist.sl, Twist.tr, Invar.av, stsize, stget, sttl, stapp, stext, tsspure, Model.sl, Model.tr, vset, vsnoc, vpure, Puzz.sl, Puzz.tr, c2]
      simp at c1 c2; simp [c1, c2]
def macOk (p : Puzz) (m : Twist) : Prop := puzzOk p ∧ wordOk p.mv.length m.to ∧ 0 < m.by'.length ∧ supR p m.to = m.by'
instance (p : Puzz) (m : Twist) : Decidable (macOk p m) := by unfold macOk; infer_instance
end Go.AM
namespace Go.AM
/-! commutators, plainly -/
abbrev cmW (x y : Int) : List Int := [x, y, -x, -y]
def cmE (p : Puzz) (x y : Int) : List Int := effK p.n p.mv (cmW x y) 4
def cmStep (p : Puzz) (s : List (List Int) × List Twist) (x y : Int) : List (List Int) × List Twist := if sameI x y ∨ cmE p x y ∈ s.1 then s else (s.1 ++ [cmE p x y], s.2 ++ [⟨cmW x y, movL (cmE p x y) p.n.toNat⟩])
def cmI (p : Puzz) (A : List Int) (s : List (List Int) × List Twist) (x : Int) : Nat → List (List Int) × List Twist
  | 0 => s
  | j + 1 => cmStep p (cmI p A s x j) x (A.getD j 0)
def cmO (p : Puzz) (A : List Int) : Nat → List (List Int) × List Twist
  | 0 => ([runI 0 p.n.toNat], [])
  | i + 1 => cmI p A (cmO p A i) (A.getD i 0) A.length
theorem moveOk_small {n : Int} (hn : n ≤ 20) {s : List Int} (h : moveOk n s) : smallE s := fun y hy => by
  have := h.2.2.1 y hy
  have := h.1
  omega
structure CmOk (n : Int) (b : Nat) (s : List (List Int) × List Twist) : Prop where
  len : s.1.length = s.2.length + 1
  le : s.2.length ≤ b
  st : ∀ e ∈ s.1, moveOk n e
  mac : ∀ t ∈ s.2, t.to.length = 4 ∧ t.by'.length ≤ 20
theorem cmE_ok {p : Puzz} (hp : genOk p.n p.mv) {x y : Int} (hx : letOk p.mv.length x) (hy : letOk p.mv.length y) : wordOk p.mv.length (cmW x y) ∧ moveOk p.n (cmE p x y) := by
  have hw : wordOk p.mv.length (cmW x y) := ⟨by simp, fun z hz => by
    simp only [cmW, List.mem_cons, List.not_mem_nil, or_false] at hz
    unfold letOk at *
    omega⟩
  exact ⟨hw, effK_ok hp hw 4 (by simp)⟩
theorem cmStep_ok {p : Puzz} (hp : genOk p.n p.mv) {x y : Int} (hx : letOk p.mv.length x) (hy : letOk p.mv.length y) {b : Nat} {s : List (List Int) × List Twist} (h : CmOk p.n b s) : CmOk p.n (b + 1) (cmStep p s x y) := by
  unfold cmStep
  split
  · exact ⟨h.len, by have := h.le; omega, h.st, h.mac⟩
  · refine ⟨by simp [h.len], by have := h.le; simp; omega, fun e he => ?_, fun t ht => ?_⟩
    · rcases List.mem_append.1 he with he | he
      · exact h.st e he
      · rw [List.mem_singleton.1 he]; exact (cmE_ok hp hx hy).2
    · rcases List.mem_append.1 ht with ht | ht
      · exact h.mac t ht
      · rw [List.mem_singleton.1 ht]
        refine ⟨rfl, ?_⟩
        have := movL_le (cmE p x y) p.n.toNat
        have := hp.1
        simp only; omega
theorem cmI_ok {p : Puzz} (hp : genOk p.n p.mv) {A : List Int} (hA : ∀ x ∈ A, letOk p.mv.length x) {x : Int} (hx : letOk p.mv.length x) {b : Nat} {s : List (List Int) × List Twist} (h : CmOk p.n b s) : ∀ j, j ≤ A.length → CmOk p.n (b + j) (cmI p A s x j)
  | 0, _ => h
  | j + 1, hj => cmStep_ok hp hx (hA _ (mem_getD A j 0 (by omega))) (cmI_ok hp hA hx h j (by omega))
theorem cmO_ok {p : Puzz} (hp : genOk p.n p.mv) {A : List Int} (hA : ∀ x ∈ A, letOk p.mv.length x) : ∀ i, i ≤ A.length → CmOk p.n (i * A.length) (cmO p A i)
  | 0, _ => ⟨rfl, Nat.zero_le _, fun e he => by
    have := hp.1
    rw [show (cmO p A 0).1 = [runI 0 p.n.toNat] from rfl, List.mem_singleton] at he
    subst he
    exact ⟨by rw [runI_len]; omega, run_perm (by omega) (by omega)⟩, fun t ht => by cases ht⟩
  | i + 1, hi => by
    have := cmI_ok hp hA (hA _ (mem_getD A i 0 (by omega))) (cmO_ok hp hA i (by omega)) A.length (Nat.le_refl _)
    rw [Nat.succ_mul]; exact this
theorem letL_ok {n : Nat} (hn : n ≤ 8) : ∀ x ∈ letL n, letOk n x := fun x hx => by
  have := letL_mem.1 hx
  unfold letOk; omega
def cmR (p : Puzz) : List Twist := if puzzOk p then (cmO p (letL p.mv.length) (letL p.mv.length).length).2 else []
theorem cmR_ok (p : Puzz) : (cmR p).length ≤ 256 ∧ ∀ t ∈ cmR p, t.to.length = 4 ∧ t.by'.length ≤ 20 := by
  unfold cmR
  split
  · rename_i h
    have hn := puzz_nm h
    have := cmO_ok h.1 (letL_ok hn.2) _ (Nat.le_refl _)
    refine ⟨Nat.le_trans this.le ?_, this.mac⟩
    rw [letL_len]
    exact Nat.mul_le_mul (show 2 * p.mv.length ≤ 16 by omega) (show 2 * p.mv.length ≤ 16 by omega)
  · exact ⟨by simp, fun t ht => by cases ht⟩
end Go.AM
namespace Go.AM
/-! what a call yields may be looked at by content alone -/
section
variable {I : Gh} {ρ : Pl} {w : World} {mem : Nat → Option AV}
theorem top1_fz (m : Sep I ρ w mem) {s : Nat} {R : AV} (hR : mem s = some R) {q : Path} {a : AV} {x : Value} (e : R.at q = a) (h : TopOk1 I (ρ s) q a x) : RepS (lend I ρ mem w) a.fz x := by
  by_cases ha : ∃ fs, a = .agg fs
  · obtain ⟨fs, rfl⟩ := ha
    obtain ⟨arr, rfl, hn, hr⟩ := h
    simp only [AV.fz, fzL_map]
    refine .agg _ arr (by simpa using hn) fun j hj hk => ?_
    have hj' : j < fs.length := by simpa using hj
    simp only [List.getElem_map]
    refine fz_cell m hR _ (q ++ [(0, j)]) _ ?_ (hr j hj' hk)
    rw [at_snoc, e]
    show fs.getD j .any = _
    rw [getD_lt hj']
  · have h' : CellOk I (ρ s q) a x := by cases a <;> first | exact h | exact absurd ⟨_, rfl⟩ ha
    exact fz_cell m hR _ q _ e h'
theorem top_fz (m : Sep I ρ w mem) {s : Nat} {R : AV} (hR : mem s = some R) {x : Value} (h : TopOk I (ρ s) [] R x) : RepS (lend I ρ mem w) R.fz x := by
  by_cases ha : ∃ fs, R = .tup fs
  · obtain ⟨fs, rfl⟩ := ha
    obtain ⟨arr, rfl, hn, hr⟩ := h
    simp only [AV.fz, fzL_map]
    refine .tup _ arr (by simpa using hn) fun j hj hk => ?_
    have hj' : j < fs.length := by simpa using hj
    simp only [List.getElem_map]
    refine top1_fz m hR (q := [(0, j)]) ?_ (hr j hj' hk)
    show AV.at ((AV.tup fs).cellAt 0 j) [] = _
    show fs.getD j .any = _
    rw [getD_lt hj']
  · have h' : TopOk1 I (ρ s) [] R x := by cases R <;> first | exact h | exact absurd ⟨_, rfl⟩ ha
    exact top1_fz m hR rfl h'
end
theorem spec_frz {P : Program} {f : FuncId} {args : List AV} {r r' : AV} (h : SpecAt P f args r) (ha : (args.all fun a => !a.nodeB) = true) (hr' : r.fz = r') : SpecAt P f args r' := by
  subst hr'
  obtain ⟨h1, h2, h3, h4⟩ := h
  refine ⟨h1, h2, h3, fun I π w vals hh hn hs hr => (h4 I π w vals hh hn hs hr).mono ?_⟩
  rintro e w' ⟨I', π', x, rfl, k1, k2, k3, k4, k5, k6, k7⟩
  have hmem : outMem args.length [] r args.length = some r := by simp [outMem]
  have hnolent : ∀ b, ¬ Owns π (fun i => args[i]?) b := by
    rintro b ⟨i, T, p, k, g1, g2, _⟩
    obtain ⟨hlt, rfl⟩ := List.getElem?_eq_some_iff.1 g1
    have := List.all_eq_true.1 ha _ (List.getElem_mem hlt)
    simp only [Bool.not_eq_true'] at this
    have := top_stat (hr i hlt (by omega)) this
    rw [rs_at this p] at g2; cases g2
  have hx := top_fz k2 hmem k3
  have hno : ∀ s T p, outMem args.length [] r.fz s = some T → (T.at p).isNode = false := fun s T p hT => by
    unfold outMem at hT
    split at hT
    · cases hT; exact rs_at hx p
    · simp at hT
  refine ⟨lend I' π' (outMem args.length [] r) w', π', x, rfl, lend_held k2 k1, ⟨fun s T p hT => node_false (hno s T p hT), fun s T p k hT g => (by rw [hno s T p hT] at g; cases g), fun s T p k s' T' p' k' hT g => (by rw [hno s T p hT] at g; cases g)⟩, rs_top hx _ _, (fun j T hT => by simp at hT), k5, fun b o hb => ?_, ?_⟩
  · rw [lend_not]
    · exact k6 b o hb
    · intro hb2
      rcases k7 b hb2 with q | q
      · exact hnolent b q
      · omega
  · rintro b ⟨s, T, p, k, g1, g2, _⟩
    rw [hno s T p g1] at g2; cases g2
end Go.AM
set_option maxRecDepth 8000
namespace Go.AM
open Go.Proofs
theorem islfz (L : List (List Int)) : (L.map fun l => isl l).map AV.fz = L.map fun l => isl l := by
  rw [List.map_map]; exact List.map_congr_left fun a _ => by simp [AV.fz]
theorem itr_fz (l : List Int) : (itr l).fz = isl l := by rw [AV.fz, fzL_map, ints_fz]
theorem eqMacroS (a b : List Twist) (ha : a.length ≤ 1099511627776) (he : ∀ t ∈ a, t.to.length ≤ 1099511627776 ∧ t.by'.length ≤ 1099511627776) : SpecAt Try.prog 63 [tsl a, tsl b] (.bl (decide (a = b))) := by
  refine spec_of_awp (M := MM) (np := 2) (fz := true) mixed Try.func63 rfl rfl (by decide) rfl (Nat.le_refl _) (by decide +kernel) (.inr ⟨rfl, rfl⟩) trivial ?_
  simp -dsimp -implicitDefEqProofs (disch := first | omega | (simp only [lenr]; done) | (simp only [lenr]; omega)) only [↓amPre, amAll, ↓reduceIte, reduceCtorEq, Nat.reduceEqDiff, Nat.reduceBEq, Nat.reduceAdd, Nat.reduceLeDiff, Nat.reduceSub, Nat.reduceMul, Int.reduceToNat, List.size_toArray, tyF, MM, bu0, ipure, kpure, tpure, sspure, kset, tset, ksnoc, tsnoc, Kind.av, Twist.sl, Twist.tr, Invar.av, stsize, stget, sttl, stapp, stext, tsspure, Model.sl, Model.tr, vset, vsnoc, vpure, Puzz.sl, Puzz.tr, keyB_str, keyB_int]
  refine ifP_mk ?_ ?_ <;> intro h1
  · simp -dsimp -implicitDefEqProofs (disch := first | omega | (simp only [lenr]; done) | (simp only [lenr]; omega)) only [↓amPre, amAll, ↓reduceIte, reduceCtorEq, Nat.reduceEqDiff, Nat.reduceBEq, Nat.reduceAdd, Nat.reduceLeDiff, Nat.reduceSub, Nat.reduceMul, Int.reduceToNat, List.size_toArray, tyF, MM, bu0, ipure, kpure, tpure, sspure, kset, tset, ksnoc, tsnoc, Kind.av, Twist.sl, Twist.tr, Invar.av, stsize, stget, sttl, stapp, stext, tsspure, Model.sl, Model.tr, vset, vsnoc, vpure, Puzz.sl, Puzz.tr, keyB_str, keyB_int, h1]
    have : ¬ a = b := by intro e; subst e; simp at h1
    simp [this]
  simp -dsimp -implicitDefEqProofs (disch := first | omega | (simp only [lenr]; done) | (simp only [lenr]; omega)) only [↓amPre, amAll, ↓reduceIte, reduceCtorEq, Nat.reduceEqDiff, Nat.reduceBEq, Nat.reduceAdd, Nat.reduceLeDiff, Nat.reduceSub, Nat.reduceMul, Int.reduceToNat, List.size_toArray, tyF, MM, bu0, ipure, kpure, tpure, sspure, kset, tset, ksnoc, tsnoc, Kind.av, Twist.sl, Twist.tr, Invar.av, stsize, stget, sttl, stapp, stext, tsspure, Model.sl, Model.tr, vset, vsnoc, vpure, Puzz.sl, Puzz.tr, keyB_str, keyB_int, h1]
  have hab : a.length = b.length := by simp at h1; omega
  refine awp_loop (fun k st => k ≤ a.length ∧ st.fr 5 = .i64 k ∧ st.fr 0 = tsl a ∧ st.fr 1 = tsl b ∧ a.take k = b.take k) (a.length) ?_ ?_
  · simp -dsimp -implicitDefEqProofs (disch := first | omega | (simp only [lenr]; done) | (simp only [lenr]; omega)) only [↓amPre, amAll, ↓reduceIte, reduceCtorEq, Nat.reduceEqDiff, Nat.reduceBEq, Nat.reduceAdd, Nat.reduceLeDiff, Nat.reduceSub, Nat.reduceMul, Int.reduceToNat, List.size_toArray, tyF, MM, bu0, ipure, kpure, tpure, sspure, kset, tset, ksnoc, tsnoc, Kind.av, Twist.sl, Twist.tr, Invar.av, stsize, stget, sttl, stapp, stext, tsspure, Model.sl, Model.tr, vset, vsnoc, vpure, Puzz.sl, Puzz.tr, keyB_str, keyB_int]
    repeat' (first | omega | rfl | exact i64c (by omega) | exact vic (by omega) | apply And.intro)
  rintro k st _ ⟨hk, f5, f0, f1, ek⟩
  by_cases hlt : k < a.length
  · obtain ⟨e1, e2⟩ := he _ (mem_getD a k default hlt)
    simp -dsimp -implicitDefEqProofs (disch := first | omega | (simp only [lenr]; done) | (simp only [lenr]; omega)) only [↓amPre, amAll, ↓reduceIte, reduceCtorEq, Nat.reduceEqDiff, Nat.reduceBEq, Nat.reduceAdd, Nat.reduceLeDiff, Nat.reduceSub, Nat.reduceMul, Int.reduceToNat, List.size_toArray, tyF, MM, bu0, ipure, kpure, tpure, sspure, kset, tset, ksnoc, tsnoc, Kind.av, Twist.sl, Twist.tr, Invar.av, stsize, stget, sttl, stapp, stext, tsspure, Model.sl, Model.tr, vset, vsnoc, vpure, Puzz.sl, Puzz.tr, keyB_str, keyB_int, f5, f0, f1]
    refine callP_of (eqMacro (a.getD k default) (b.getD k default) e1 e2) ?_
    cases w1 : decide (a.getD k default = b.getD k default) with
    | false =>
      simp -dsimp -implicitDefEqProofs (disch := first | omega | (simp only [lenr]; done) | (simp only [lenr]; omega)) only [↓amPre, amAll, ↓reduceIte, reduceCtorEq, Nat.reduceEqDiff, Nat.reduceBEq, Nat.reduceAdd, Nat.reduceLeDiff, Nat.reduceSub, Nat.reduceMul, Int.reduceToNat, List.size_toArray, tyF, MM, bu0, ipure, kpure, tpure, sspure, kset, tset, ksnoc, tsnoc, Kind.av, Twist.sl, Twist.tr, Invar.av, stsize, stget, sttl, stapp, stext, tsspure, Model.sl, Model.tr, vset, vsnoc, vpure, Puzz.sl, Puzz.tr, keyB_str, keyB_int, f5, f0, f1, w1]
      simp only [decide_eq_false_iff_not] at w1
      have hne : ¬ a = b := by
        intro e; subst e; exact w1 rfl
      simp [hne]
    | true =>
      simp -dsimp -implicitDefEqProofs (disch := first | omega | (simp only [lenr]; done) | (simp only [lenr]; omega)) only [↓amPre, amAll, ↓reduceIte, reduceCtorEq, Nat.reduceEqDiff, Nat.reduceBEq, Nat.reduceAdd, Nat.reduceLeDiff, Nat.reduceSub, Nat.reduceMul, Int.reduceToNat, List.size_toArray, tyF, MM, bu0, ipure, kpure, tpure, sspure, kset, tset, ksnoc, tsnoc, Kind.av, Twist.sl, Twist.tr, Invar.av, stsize, stget, sttl, stapp, stext, tsspure, Model.sl, Model.tr, vset, vsnoc, vpure, Puzz.sl, Puzz.tr, keyB_str, keyB_int, f5, f0, f1, w1]
      simp only [decide_eq_true_eq] at w1
      repeat' (first | omega | rfl | exact i64c (by omega) | exact vic (by omega) | exact (take_eq_iff default k hlt (by omega)).2 ⟨ek, w1⟩ | apply And.intro)
  · have hke : k = a.length := by omega
    subst hke
    simp -dsimp -implicitDefEqProofs (disch := first | omega | (simp only [lenr]; done) | (simp only [lenr]; omega)) only [↓amPre, amAll, ↓reduceIte, reduceCtorEq, Nat.reduceEqDiff, Nat.reduceBEq, Nat.reduceAdd, Nat.reduceLeDiff, Nat.reduceSub, Nat.reduceMul, Int.reduceToNat, List.size_toArray, tyF, MM, bu0, ipure, kpure, tpure, sspure, kset, tset, ksnoc, tsnoc, Kind.av, Twist.sl, Twist.tr, Invar.av, stsize, stget, sttl, stapp, stext, tsspure, Model.sl, Model.tr, vset, vsnoc, vpure, Puzz.sl, Puzz.tr, keyB_str, keyB_int, f5, f0, f1]
    simp [eq_of_takes hab ek]
theorem markMacroS (l : List Twist) (k : Int) (h0 : 0 ≤ k) (h1 : k + cnts l ≤ 1099511627776) (hl : l.length ≤ 1099511627776) : SpecX Try.prog 64 [ttr l, .i64 k] [some (ttr (mks k l))] (.i64 (k + cnts l)) := by
  refine spec_of_awp (M := MM) (np := 2) (fz := false) mixed Try.func64 rfl rfl (by decide) rfl (Nat.le_refl _) (by decide +kernel) (.inl rfl) (by simp only [sigsOk_some, sigsOk_nil, sig_tr, List.length_map, mks_len, and_self]) ?_
  simp -dsimp -implicitDefEqProofs (disch := first | omega | (simp only [lenr]; done) | (simp only [lenr]; omega)) only [↓amPre, amAll, ↓reduceIte, reduceCtorEq, Nat.reduceEqDiff, Nat.reduceBEq, Nat.reduceAdd, Nat.reduceLeDiff, Nat.reduceSub, Nat.reduceMul, Int.reduceToNat, List.size_toArray, tyF, MM, bu0, ipure, kpure, tpure, sspure, kset, tset, ksnoc, tsnoc, Kind.av, Twist.sl, Twist.tr, Invar.av, stsize, stget, sttl, stapp, stext, tsspure, Model.sl, Model.tr, vset, vsnoc, vpure, Puzz.sl, Puzz.tr, keyB_str, keyB_int]
  have hr := mks_len k l
  refine awp_loop (fun j st => j ≤ l.length ∧ st.fr 5 = .i64 j ∧ st.fr 1 = .i64 (k + cnts (l.take j)) ∧ st.fr 0 = .ref 0 [] 2 0 l.length ∧ st.mem 0 = some (ttr (mixL (mks k l) l j))) (l.length) ?_ ?_
  · simp -dsimp -implicitDefEqProofs (disch := first | omega | (simp only [lenr]; done) | (simp only [lenr]; omega)) only [↓amPre, amAll, ↓reduceIte, reduceCtorEq, Nat.reduceEqDiff, Nat.reduceBEq, Nat.reduceAdd, Nat.reduceLeDiff, Nat.reduceSub, Nat.reduceMul, Int.reduceToNat, List.size_toArray, tyF, MM, bu0, ipure, kpure, tpure, sspure, kset, tset, ksnoc, tsnoc, Kind.av, Twist.sl, Twist.tr, Invar.av, stsize, stget, sttl, stapp, stext, tsspure, Model.sl, Model.tr, vset, vsnoc, vpure, Puzz.sl, Puzz.tr, keyB_str, keyB_int, mixL_zero]
    simp [cnts]
  rintro j st _ ⟨hj, f5, f1, f0, m0⟩
  have hml := mixL_len (mks k l) l j hr
  by_cases hlt : j < l.length
  · have hs := mixL_set (mks k l) l j default hr hlt
    have hg := mixL_get (mks k l) l j default hr hlt
    rw [tmks_get _ _ _ hlt] at hs
    have ct := cnts_take l j hlt
    have cl := cnts_le1 l j hlt
    rw [tcnt] at ct cl
    simp -dsimp -implicitDefEqProofs (disch := first | omega | (simp only [lenr]; done) | (simp only [lenr]; omega)) only [↓amPre, amAll, ↓reduceIte, reduceCtorEq, Nat.reduceEqDiff, Nat.reduceBEq, Nat.reduceAdd, Nat.reduceLeDiff, Nat.reduceSub, Nat.reduceMul, Int.reduceToNat, List.size_toArray, tyF, MM, bu0, ipure, kpure, tpure, sspure, kset, tset, ksnoc, tsnoc, Kind.av, Twist.sl, Twist.tr, Invar.av, stsize, stget, sttl, stapp, stext, tsspure, Model.sl, Model.tr, vset, vsnoc, vpure, Puzz.sl, Puzz.tr, keyB_str, keyB_int, f5, f1, f0, m0, hml, hg]
    refine callX_of (markInt64S (l.getD j default).to _ (by omega) (by omega) (by omega)) ?_
    simp -dsimp -implicitDefEqProofs (disch := first | omega | (simp only [lenr]; done) | (simp only [lenr]; omega)) only [↓amPre, amAll, ↓reduceIte, reduceCtorEq, Nat.reduceEqDiff, Nat.reduceBEq, Nat.reduceAdd, Nat.reduceLeDiff, Nat.reduceSub, Nat.reduceMul, Int.reduceToNat, List.size_toArray, tyF, MM, bu0, ipure, kpure, tpure, sspure, kset, tset, ksnoc, tsnoc, Kind.av, Twist.sl, Twist.tr, Invar.av, stsize, stget, sttl, stapp, stext, tsspure, Model.sl, Model.tr, vset, vsnoc, vpure, Puzz.sl, Puzz.tr, keyB_str, keyB_int, f5, f1, f0, m0, hml, hg]
    refine callX_of (markInt64S (l.getD j default).by' _ (by omega) (by omega) (by omega)) ?_
    simp -dsimp -implicitDefEqProofs (disch := first | omega | (simp only [lenr]; done) | (simp only [lenr]; omega)) only [↓amPre, amAll, ↓reduceIte, reduceCtorEq, Nat.reduceEqDiff, Nat.reduceBEq, Nat.reduceAdd, Nat.reduceLeDiff, Nat.reduceSub, Nat.reduceMul, Int.reduceToNat, List.size_toArray, tyF, MM, bu0, ipure, kpure, tpure, sspure, kset, tset, ksnoc, tsnoc, Kind.av, Twist.sl, Twist.tr, Invar.av, stsize, stget, sttl, stapp, stext, tsspure, Model.sl, Model.tr, vset, vsnoc, vpure, Puzz.sl, Puzz.tr, keyB_str, keyB_int, f5, f1, f0, m0, hml, hg, hs]
    repeat' (first | omega | rfl | exact i64c (by omega) | exact vic (by omega) | apply And.intro)
  · have hj' : j = l.length := by omega
    subst hj'
    have := mixL_all (mks k l) l l.length (by omega) (by omega)
    simp -dsimp -implicitDefEqProofs (disch := first | omega | (simp only [lenr]; done) | (simp only [lenr]; omega)) only [↓amPre, amAll, ↓reduceIte, reduceCtorEq, Nat.reduceEqDiff, Nat.reduceBEq, Nat.reduceAdd, Nat.reduceLeDiff, Nat.reduceSub, Nat.reduceMul, Int.reduceToNat, List.size_toArray, tyF, MM, bu0, ipure, kpure, tpure, sspure, kset, tset, ksnoc, tsnoc, Kind.av, Twist.sl, Twist.tr, Invar.av, stsize, stget, sttl, stapp, stext, tsspure, Model.sl, Model.tr, vset, vsnoc, vpure, Puzz.sl, Puzz.tr, keyB_str, keyB_int, f5, f1, f0, m0, hml, this, List.take_length]
theorem heldMacroS (l : List Twist) (k : Int) (h0 : 0 ≤ k) (h1 : k + cnts l ≤ 1099511627776) (hl : l.length ≤ 1099511627776) : SpecAt Try.prog 65 [tsl (mks k l), .i64 k] (.i64 (k + cnts l)) := by
  refine spec_of_awp (M := MM) (np := 2) (fz := true) mixed Try.func65 rfl rfl (by decide) rfl (Nat.le_refl _) (by decide +kernel) (.inr ⟨rfl, rfl⟩) trivial ?_
  simp -dsimp -implicitDefEqProofs (disch := first | omega | (simp only [lenr]; done) | (simp only [lenr]; omega)) only [↓amPre, amAll, ↓reduceIte, reduceCtorEq, Nat.reduceEqDiff, Nat.reduceBEq, Nat.reduceAdd, Nat.reduceLeDiff, Nat.reduceSub, Nat.reduceMul, Int.reduceToNat, List.size_toArray, tyF, MM, bu0, ipure, kpure, tpure, sspure, kset, tset, ksnoc, tsnoc, Kind.av, Twist.sl, Twist.tr, Invar.av, stsize, stget, sttl, stapp, stext, tsspure, Model.sl, Model.tr, vset, vsnoc, vpure, Puzz.sl, Puzz.tr, keyB_str, keyB_int]
  have hr := mks_len k l
  refine awp_loop (fun j st => j ≤ l.length ∧ st.fr 5 = .i64 j ∧ st.fr 1 = .i64 (k + cnts (l.take j)) ∧ st.fr 0 = tsl (mks k l)) (l.length) ?_ ?_
  · simp -dsimp -implicitDefEqProofs (disch := first | omega | (simp only [lenr]; done) | (simp only [lenr]; omega)) only [↓amPre, amAll, ↓reduceIte, reduceCtorEq, Nat.reduceEqDiff, Nat.reduceBEq, Nat.reduceAdd, Nat.reduceLeDiff, Nat.reduceSub, Nat.reduceMul, Int.reduceToNat, List.size_toArray, tyF, MM, bu0, ipure, kpure, tpure, sspure, kset, tset, ksnoc, tsnoc, Kind.av, Twist.sl, Twist.tr, Invar.av, stsize, stget, sttl, stapp, stext, tsspure, Model.sl, Model.tr, vset, vsnoc, vpure, Puzz.sl, Puzz.tr, keyB_str, keyB_int]
    simp [cnts]
  rintro j st _ ⟨hj, f5, f1, f0⟩
  by_cases hlt : j < l.length
  · have ct := cnts_take l j hlt
    have cl := cnts_le1 l j hlt
    rw [tcnt] at ct cl
    simp -dsimp -implicitDefEqProofs (disch := first | omega | (simp only [lenr]; done) | (simp only [lenr]; omega)) only [↓amPre, amAll, ↓reduceIte, reduceCtorEq, Nat.reduceEqDiff, Nat.reduceBEq, Nat.reduceAdd, Nat.reduceLeDiff, Nat.reduceSub, Nat.reduceMul, Int.reduceToNat, List.size_toArray, tyF, MM, bu0, ipure, kpure, tpure, sspure, kset, tset, ksnoc, tsnoc, Kind.av, Twist.sl, Twist.tr, Invar.av, stsize, stget, sttl, stapp, stext, tsspure, Model.sl, Model.tr, vset, vsnoc, vpure, Puzz.sl, Puzz.tr, keyB_str, keyB_int, f5, f1, f0, hr, tmks_get]
    refine callP_of (heldInt64S _ _ (by omega) (by omega) (by omega)) ?_
    simp -dsimp -implicitDefEqProofs (disch := first | omega | (simp only [lenr]; done) | (simp only [lenr]; omega)) only [↓amPre, amAll, ↓reduceIte, reduceCtorEq, Nat.reduceEqDiff, Nat.reduceBEq, Nat.reduceAdd, Nat.reduceLeDiff, Nat.reduceSub, Nat.reduceMul, Int.reduceToNat, List.size_toArray, tyF, MM, bu0, ipure, kpure, tpure, sspure, kset, tset, ksnoc, tsnoc, Kind.av, Twist.sl, Twist.tr, Invar.av, stsize, stget, sttl, stapp, stext, tsspure, Model.sl, Model.tr, vset, vsnoc, vpure, Puzz.sl, Puzz.tr, keyB_str, keyB_int, f5, f1, f0, hr, tmks_get]
    refine callP_of (heldInt64S _ _ (by omega) (by omega) (by omega)) ?_
    simp -dsimp -implicitDefEqProofs (disch := first | omega | (simp only [lenr]; done) | (simp only [lenr]; omega)) only [↓amPre, amAll, ↓reduceIte, reduceCtorEq, Nat.reduceEqDiff, Nat.reduceBEq, Nat.reduceAdd, Nat.reduceLeDiff, Nat.reduceSub, Nat.reduceMul, Int.reduceToNat, List.size_toArray, tyF, MM, bu0, ipure, kpure, tpure, sspure, kset, tset, ksnoc, tsnoc, Kind.av, Twist.sl, Twist.tr, Invar.av, stsize, stget, sttl, stapp, stext, tsspure, Model.sl, Model.tr, vset, vsnoc, vpure, Puzz.sl, Puzz.tr, keyB_str, keyB_int, f5, f1, f0, hr]
    repeat' (first | omega | rfl | exact i64c (by omega) | exact vic (by omega) | apply And.intro)
  · have hj' : j = l.length := by omega
    subst hj'
    simp -dsimp -implicitDefEqProofs (disch := first | omega | (simp only [lenr]; done) | (simp only [lenr]; omega)) only [↓amPre, amAll, ↓reduceIte, reduceCtorEq, Nat.reduceEqDiff, Nat.reduceBEq, Nat.reduceAdd, Nat.reduceLeDiff, Nat.reduceSub, Nat.reduceMul, Int.reduceToNat, List.size_toArray, tyF, MM, bu0, ipure, kpure, tpure, sspure, kset, tset, ksnoc, tsnoc, Kind.av, Twist.sl, Twist.tr, Invar.av, stsize, stget, sttl, stapp, stext, tsspure, Model.sl, Model.tr, vset, vsnoc, vpure, Puzz.sl, Puzz.tr, keyB_str, keyB_int, f5, f1, f0, hr, List.take_length]
theorem lettersS (p : Puzz) (hn : p.mv.length ≤ 8) : SpecAt Try.prog 140 [p.sl] (itr (letL p.mv.length)) := by
  refine spec_of_awp (M := MM) (np := 1) (fz := false) mixed Try.func140 rfl rfl (by decide) rfl (Nat.le_refl _) (by decide +kernel) (.inl rfl) (by first | trivial | simp only [sigsOk_nil, sigsOk_some, sigsOk_none, sig_tr, sig_pt, sig_mt, sig_agg, List.map_cons, List.map_nil, sig1_tr, sig1_pt, sig1_v, and_self, true_and, List.length_map, List.length_set]) ?_
  simp -dsimp -implicitDefEqProofs (disch := first | omega | (simp only [lenr]; done) | (simp only [lenr]; omega)) only [↓amPre, amAll, ↓reduceIte, reduceCtorEq, Nat.reduceEqDiff, Nat.reduceBEq, Nat.reduceAdd, Nat.reduceLeDiff, Nat.reduceSub, Nat.reduceMul, Int.reduceToNat, List.size_toArray, tyF, MM, bu0, ipure, kpure, tpure, sspure, kset, tset, ksnoc, tsnoc, Kind.av, Twist.sl, Twist.tr, Invar.av, stsize, stget, sttl, stapp, stext, tsspure, Model.sl, Model.tr, vset, vsnoc, vpure, Puzz.sl, Puzz.tr, keyB_str, keyB_int]
  refine awp_loop (fun k st => k ≤ p.mv.length ∧ st.fr 4 = .i64 ((k : Int) + 1) ∧ st.fr 1 = .loc 1 [] 0 0 ∧ st.mem 1 = some (.pt 3 p.sl) ∧ ((k = 0 ∧ st.fr 3 = .ref 5 [] 1 0 0 ∧ st.mem 5 = some (.tr 1 [])) ∨ (0 < k ∧ st.fr 3 = .ref 18 [] 1 0 (2 * k) ∧ st.mem 18 = some (itr (letL k))))) (p.mv.length) ?_ ?_
  · simp -dsimp -implicitDefEqProofs (disch := first | omega | (simp only [lenr]; done) | (simp only [lenr]; omega)) only [↓amPre, amAll, ↓reduceIte, reduceCtorEq, Nat.reduceEqDiff, Nat.reduceBEq, Nat.reduceAdd, Nat.reduceLeDiff, Nat.reduceSub, Nat.reduceMul, Int.reduceToNat, List.size_toArray, tyF, MM, bu0, ipure, kpure, tpure, sspure, kset, tset, ksnoc, tsnoc, Kind.av, Twist.sl, Twist.tr, Invar.av, stsize, stget, sttl, stapp, stext, tsspure, Model.sl, Model.tr, vset, vsnoc, vpure, Puzz.sl, Puzz.tr, keyB_str, keyB_int]
    simp
  rintro k st _ ⟨hk, f4, f1, m1, ek⟩
  have hl := letL_len k
  have hs : letL (k + 1) = letL k ++ [(k : Int) + 1, -((k : Int) + 1)] := rfl
  by_cases hlt : k < p.mv.length
  · have c1 : ((k : Int) + 1 ≤ (p.mv.length : Int)) := by omega
    have ew : IntKind.i64.wrap (0 - ((k : Int) + 1)) = -((k : Int) + 1) := by rw [wrap64_id (by omega)]; omega
    have ew2 : IntKind.i64.wrap ((k : Int) + 1 + 1) = ((k + 1 : Nat) : Int) + 1 := by rw [wrap64_id (by omega)]; omega
    rcases ek with ⟨rfl, g3, g5⟩ | ⟨h0, g3, g5⟩
    · simp -dsimp -implicitDefEqProofs (disch := first | omega | (simp only [lenr]; done) | (simp only [lenr]; omega)) only [↓amPre, amAll, ↓reduceIte, reduceCtorEq, Nat.reduceEqDiff, Nat.reduceBEq, Nat.reduceAdd, Nat.reduceLeDiff, Nat.reduceSub, Nat.reduceMul, Int.reduceToNat, List.size_toArray, tyF, MM, bu0, ipure, kpure, tpure, sspure, kset, tset, ksnoc, tsnoc, Kind.av, Twist.sl, Twist.tr, Invar.av, stsize, stget, sttl, stapp, stext, tsspure, Model.sl, Model.tr, vset, vsnoc, vpure, Puzz.sl, Puzz.tr, keyB_str, keyB_int, f4, f1, m1, g3, g5, c1, ew, ew2, hl]
      refine ⟨hlt, by omega, by omega, ?_⟩
      simp [letL]
    · simp -dsimp -implicitDefEqProofs (disch := first | omega | (simp only [lenr]; done) | (simp only [lenr]; omega)) only [↓amPre, amAll, ↓reduceIte, reduceCtorEq, Nat.reduceEqDiff, Nat.reduceBEq, Nat.reduceAdd, Nat.reduceLeDiff, Nat.reduceSub, Nat.reduceMul, Int.reduceToNat, List.size_toArray, tyF, MM, bu0, ipure, kpure, tpure, sspure, kset, tset, ksnoc, tsnoc, Kind.av, Twist.sl, Twist.tr, Invar.av, stsize, stget, sttl, stapp, stext, tsspure, Model.sl, Model.tr, vset, vsnoc, vpure, Puzz.sl, Puzz.tr, keyB_str, keyB_int, f4, f1, m1, g3, g5, c1, ew, ew2, hl]
      refine ⟨hlt, by omega, by omega, by rw [show 2 * k + 2 = 2 * (k + 1) by omega], ?_⟩
      simp [letL]
  · have hk : k = p.mv.length := by omega
    subst hk
    have c1 : ¬ ((p.mv.length : Int) + 1 ≤ (p.mv.length : Int)) := by omega
    rcases ek with ⟨h0, g3, g5⟩ | ⟨h0, g3, g5⟩
    · rw [h0]
      rw [h0] at c1
      simp -dsimp -implicitDefEqProofs (disch := first | omega | (simp only [lenr]; done) | (simp only [lenr]; omega)) only [↓amPre, amAll, ↓reduceIte, reduceCtorEq, Nat.reduceEqDiff, Nat.reduceBEq, Nat.reduceAdd, Nat.reduceLeDiff, Nat.reduceSub, Nat.reduceMul, Int.reduceToNat, List.size_toArray, tyF, MM, bu0, ipure, kpure, tpure, sspure, kset, tset, ksnoc, tsnoc, Kind.av, Twist.sl, Twist.tr, Invar.av, stsize, stget, sttl, stapp, stext, tsspure, Model.sl, Model.tr, vset, vsnoc, vpure, Puzz.sl, Puzz.tr, keyB_str, keyB_int, f4, f1, m1, g3, g5, c1, h0]
      simp [letL]
    · simp -dsimp -implicitDefEqProofs (disch := first | omega | (simp only [lenr]; done) | (simp only [lenr]; omega)) only [↓amPre, amAll, ↓reduceIte, reduceCtorEq, Nat.reduceEqDiff, Nat.reduceBEq, Nat.reduceAdd, Nat.reduceLeDiff, Nat.reduceSub, Nat.reduceMul, Int.reduceToNat, List.size_toArray, tyF, MM, bu0, ipure, kpure, tpure, sspure, kset, tset, ksnoc, tsnoc, Kind.av, Twist.sl, Twist.tr, Invar.av, stsize, stget, sttl, stapp, stext, tsspure, Model.sl, Model.tr, vset, vsnoc, vpure, Puzz.sl, Puzz.tr, keyB_str, keyB_int, f4, f1, m1, g3, g5, c1, hl]
theorem amongS (L : List (List Int)) (s : List Int) (hL : L.length ≤ 1099511627776) (hl : ∀ t ∈ L, t.length ≤ 1099511627776) : SpecAt Try.prog 141 [ssl L, isl s] (.bl (decide (s ∈ L))) := by
  refine spec_of_awp (M := MM) (np := 2) (fz := true) mixed Try.func141 rfl rfl (by decide) rfl (Nat.le_refl _) (by decide +kernel) (.inr ⟨rfl, rfl⟩) trivial ?_
  simp -dsimp -implicitDefEqProofs (disch := first | omega | (simp only [lenr]; done) | (simp only [lenr]; omega)) only [↓amPre, amAll, ↓reduceIte, reduceCtorEq, Nat.reduceEqDiff, Nat.reduceBEq, Nat.reduceAdd, Nat.reduceLeDiff, Nat.reduceSub, Nat.reduceMul, Int.reduceToNat, List.size_toArray, tyF, MM, bu0, ipure, kpure, tpure, sspure, kset, tset, ksnoc, tsnoc, Kind.av, Twist.sl, Twist.tr, Invar.av, stsize, stget, sttl, stapp, stext, tsspure, Model.sl, Model.tr, vset, vsnoc, vpure, Puzz.sl, Puzz.tr, keyB_str, keyB_int]
  refine awp_loop (fun k st => k ≤ L.length ∧ st.fr 5 = .i64 k ∧ st.fr 0 = ssl L ∧ st.fr 1 = isl s ∧ s ∉ L.take k) (L.length) ?_ ?_
  · simp -dsimp -implicitDefEqProofs (disch := first | omega | (simp only [lenr]; done) | (simp only [lenr]; omega)) only [↓amPre, amAll, ↓reduceIte, reduceCtorEq, Nat.reduceEqDiff, Nat.reduceBEq, Nat.reduceAdd, Nat.reduceLeDiff, Nat.reduceSub, Nat.reduceMul, Int.reduceToNat, List.size_toArray, tyF, MM, bu0, ipure, kpure, tpure, sspure, kset, tset, ksnoc, tsnoc, Kind.av, Twist.sl, Twist.tr, Invar.av, stsize, stget, sttl, stapp, stext, tsspure, Model.sl, Model.tr, vset, vsnoc, vpure, Puzz.sl, Puzz.tr, keyB_str, keyB_int]
    simp
  rintro k st _ ⟨hk, f5, f0, f1, ek⟩
  by_cases hlt : k < L.length
  · have ht := take_succ_eq L k default hlt
    simp -dsimp -implicitDefEqProofs (disch := first | omega | (simp only [lenr]; done) | (simp only [lenr]; omega)) only [↓amPre, amAll, ↓reduceIte, reduceCtorEq, Nat.reduceEqDiff, Nat.reduceBEq, Nat.reduceAdd, Nat.reduceLeDiff, Nat.reduceSub, Nat.reduceMul, Int.reduceToNat, List.size_toArray, tyF, MM, bu0, ipure, kpure, tpure, sspure, kset, tset, ksnoc, tsnoc, Kind.av, Twist.sl, Twist.tr, Invar.av, stsize, stget, sttl, stapp, stext, tsspure, Model.sl, Model.tr, vset, vsnoc, vpure, Puzz.sl, Puzz.tr, keyB_str, keyB_int, f5, f0, f1]
    refine callP_of (sEqualInts (L.getD k default) s (hl _ (mem_getD L k default hlt))) ?_
    by_cases e : L.getD k default = s
    · have hm : s ∈ L := by rw [← e]; exact mem_getD L k default hlt
      simp -dsimp -implicitDefEqProofs (disch := first | omega | (simp only [lenr]; done) | (simp only [lenr]; omega)) only [↓amPre, amAll, ↓reduceIte, reduceCtorEq, Nat.reduceEqDiff, Nat.reduceBEq, Nat.reduceAdd, Nat.reduceLeDiff, Nat.reduceSub, Nat.reduceMul, Int.reduceToNat, List.size_toArray, tyF, MM, bu0, ipure, kpure, tpure, sspure, kset, tset, ksnoc, tsnoc, Kind.av, Twist.sl, Twist.tr, Invar.av, stsize, stget, sttl, stapp, stext, tsspure, Model.sl, Model.tr, vset, vsnoc, vpure, Puzz.sl, Puzz.tr, keyB_str, keyB_int, f5, f0, f1, decide_eq_true e, decide_eq_true hm]
    · simp -dsimp -implicitDefEqProofs (disch := first | omega | (simp only [lenr]; done) | (simp only [lenr]; omega)) only [↓amPre, amAll, ↓reduceIte, reduceCtorEq, Nat.reduceEqDiff, Nat.reduceBEq, Nat.reduceAdd, Nat.reduceLeDiff, Nat.reduceSub, Nat.reduceMul, Int.reduceToNat, List.size_toArray, tyF, MM, bu0, ipure, kpure, tpure, sspure, kset, tset, ksnoc, tsnoc, Kind.av, Twist.sl, Twist.tr, Invar.av, stsize, stget, sttl, stapp, stext, tsspure, Model.sl, Model.tr, vset, vsnoc, vpure, Puzz.sl, Puzz.tr, keyB_str, keyB_int, f5, f0, f1, decide_eq_false e]
      refine ⟨hlt, by omega, ?_⟩
      rw [ht]
      simp only [List.mem_append, List.mem_singleton, not_or]
      exact ⟨ek, fun q => e q.symm⟩
  · have hk' : k = L.length := by omega
    subst hk'
    rw [List.take_length] at ek
    simp -dsimp -implicitDefEqProofs (disch := first | omega | (simp only [lenr]; done) | (simp only [lenr]; omega)) only [↓amPre, amAll, ↓reduceIte, reduceCtorEq, Nat.reduceEqDiff, Nat.reduceBEq, Nat.reduceAdd, Nat.reduceLeDiff, Nat.reduceSub, Nat.reduceMul, Int.reduceToNat, List.size_toArray, tyF, MM, bu0, ipure, kpure, tpure, sspure, kset, tset, ksnoc, tsnoc, Kind.av, Twist.sl, Twist.tr, Invar.av, stsize, stget, sttl, stapp, stext, tsspure, Model.sl, Model.tr, vset, vsnoc, vpure, Puzz.sl, Puzz.tr, keyB_str, keyB_int, f5, f0, f1, decide_eq_false ek]
theorem iCommutator (p : Puzz) (h : smallP p) : SpecAt Try.prog 62 [p.sl] (ttr (cmR p)) := by
  have q0 := iPuzzle p h
  by_cases hd : puzzOk p
  case neg =>
    have hz : cmR p = [] := if_neg hd
    rw [decide_eq_false hd] at q0
    rw [hz]
    refine spec_of_awp (M := MM) (np := 1) (fz := false) mixed Try.func62 rfl rfl (by decide) rfl (Nat.le_refl _) (by decide +kernel) (.inl rfl) (by first | trivial | simp only [sigsOk_nil, sigsOk_some, sigsOk_none, sig_tr, sig_pt, sig_mt, sig_agg, List.map_cons, List.map_nil, sig1_tr, sig1_pt, sig1_v, and_self, true_and, List.length_map, List.length_set]) ?_
    simp -dsimp -implicitDefEqProofs (disch := first | omega | (simp only [lenr]; done) | (simp only [lenr]; omega)) only [↓amPre, amAll, ↓reduceIte, reduceCtorEq, Nat.reduceEqDiff, Nat.reduceBEq, Nat.reduceAdd, Nat.reduceLeDiff, Nat.reduceSub, Nat.reduceMul, Int.reduceToNat, List.size_toArray, tyF, MM, bu0, ipure, kpure, tpure, sspure, kset, tset, ksnoc, tsnoc, Kind.av, Twist.sl, Twist.tr, Invar.av, stsize, stget, sttl, stapp, stext, tsspure, Model.sl, Model.tr, vset, vsnoc, vpure, Puzz.sl, Puzz.tr, keyB_str, keyB_int]
    refine callP_of (q0) ?_
    simp -dsimp -implicitDefEqProofs (disch := first | omega | (simp only [lenr]; done) | (simp only [lenr]; omega)) only [↓amPre, amAll, ↓reduceIte, reduceCtorEq, Nat.reduceEqDiff, Nat.reduceBEq, Nat.reduceAdd, Nat.reduceLeDiff, Nat.reduceSub, Nat.reduceMul, Int.reduceToNat, List.size_toArray, tyF, MM, bu0, ipure, kpure, tpure, sspure, kset, tset, ksnoc, tsnoc, Kind.av, Twist.sl, Twist.tr, Invar.av, stsize, stget, sttl, stapp, stext, tsspure, Model.sl, Model.tr, vset, vsnoc, vpure, Puzz.sl, Puzz.tr, keyB_str, keyB_int]
    try rfl
  rw [decide_eq_true hd] at q0
  have hn := puzz_nm hd
  have hN := hd.1.1
  have hA := letL_ok hn.2
  have hAl := letL_len p.mv.length
  have hz : cmR p = (cmO p (letL p.mv.length) (letL p.mv.length).length).2 := if_pos hd
  obtain ⟨N, hNN⟩ : ∃ N : Nat, p.n = N := ⟨p.n.toNat, by omega⟩
  have l0 := iidentity N (by omega)
  rw [← hNN] at l0
  have hid : cmO p (letL p.mv.length) 0 = ([runI 0 N], []) := by rw [cmO, hNN]; rfl
  have hok := fun i hi => cmO_ok hd.1 hA i hi
  have hsI : smallE (runI 0 N) := moveOk_small hN.2 (n := p.n) (by rw [hNN]; exact ⟨by rw [runI_len], run_perm (by omega) (by omega)⟩)
  have lk0 := stateKeyI (runI 0 N) hsI (by rw [runI_len]; omega)
  have ll := lettersI p.mv.length hn.2
  have hup0 := seenM_upd [] (runI 0 N)
  rw [seenM_nil] at hup0
  rw [hz]
  generalize hAe : letL p.mv.length = A at *
  refine spec_of_awp (M := MM) (np := 1) (fz := false) mixed Try.func62 rfl rfl (by decide) rfl (Nat.le_refl _) (by decide +kernel) (.inl rfl) (by first | trivial | simp only [sigsOk_nil, sigsOk_some, sigsOk_none, sig_tr, sig_pt, sig_mt, sig_agg, List.map_cons, List.map_nil, sig1_tr, sig1_pt, sig1_v, and_self, true_and, List.length_map, List.length_set]) ?_
  simp -dsimp -implicitDefEqProofs (disch := first | omega | (simp only [lenr]; done) | (simp only [lenr]; omega)) only [↓amPre, amAll, ↓reduceIte, reduceCtorEq, Nat.reduceEqDiff, Nat.reduceBEq, Nat.reduceAdd, Nat.reduceLeDiff, Nat.reduceSub, Nat.reduceMul, Int.reduceToNat, List.size_toArray, tyF, MM, bu0, ipure, kpure, tpure, sspure, kset, tset, ksnoc, tsnoc, Kind.av, Twist.sl, Twist.tr, Invar.av, stsize, stget, sttl, stapp, stext, tsspure, Model.sl, Model.tr, vset, vsnoc, vpure, Puzz.sl, Puzz.tr, keyB_str, keyB_int]
  refine callP_of (q0) ?_
  simp -dsimp -implicitDefEqProofs (disch := first | omega | (simp only [lenr]; done) | (simp only [lenr]; omega)) only [↓amPre, amAll, ↓reduceIte, reduceCtorEq, Nat.reduceEqDiff, Nat.reduceBEq, Nat.reduceAdd, Nat.reduceLeDiff, Nat.reduceSub, Nat.reduceMul, Int.reduceToNat, List.size_toArray, tyF, MM, bu0, ipure, kpure, tpure, sspure, kset, tset, ksnoc, tsnoc, Kind.av, Twist.sl, Twist.tr, Invar.av, stsize, stget, sttl, stapp, stext, tsspure, Model.sl, Model.tr, vset, vsnoc, vpure, Puzz.sl, Puzz.tr, keyB_str, keyB_int]
  refine callP_of (l0) ?_
  simp -dsimp -implicitDefEqProofs (disch := first | omega | (simp only [lenr]; done) | (simp only [lenr]; omega)) only [↓amPre, amAll, ↓reduceIte, reduceCtorEq, Nat.reduceEqDiff, Nat.reduceBEq, Nat.reduceAdd, Nat.reduceLeDiff, Nat.reduceSub, Nat.reduceMul, Int.reduceToNat, List.size_toArray, tyF, MM, bu0, ipure, kpure, tpure, sspure, kset, tset, ksnoc, tsnoc, Kind.av, Twist.sl, Twist.tr, Invar.av, stsize, stget, sttl, stapp, stext, tsspure, Model.sl, Model.tr, vset, vsnoc, vpure, Puzz.sl, Puzz.tr, keyB_str, keyB_int]
  refine callP_of (lk0) ?_
  simp -dsimp -implicitDefEqProofs (disch := first | omega | (simp only [lenr]; done) | (simp only [lenr]; omega)) only [↓amPre, amAll, ↓reduceIte, reduceCtorEq, Nat.reduceEqDiff, Nat.reduceBEq, Nat.reduceAdd, Nat.reduceLeDiff, Nat.reduceSub, Nat.reduceMul, Int.reduceToNat, List.size_toArray, tyF, MM, bu0, ipure, kpure, tpure, sspure, kset, tset, ksnoc, tsnoc, Kind.av, Twist.sl, Twist.tr, Invar.av, stsize, stget, sttl, stapp, stext, tsspure, Model.sl, Model.tr, vset, vsnoc, vpure, Puzz.sl, Puzz.tr, keyB_str, keyB_int, hup0]
  refine callP_of (ll) ?_
  simp -dsimp -implicitDefEqProofs (disch := first | omega | (simp only [lenr]; done) | (simp only [lenr]; omega)) only [↓amPre, amAll, ↓reduceIte, reduceCtorEq, Nat.reduceEqDiff, Nat.reduceBEq, Nat.reduceAdd, Nat.reduceLeDiff, Nat.reduceSub, Nat.reduceMul, Int.reduceToNat, List.size_toArray, tyF, MM, bu0, ipure, kpure, tpure, sspure, kset, tset, ksnoc, tsnoc, Kind.av, Twist.sl, Twist.tr, Invar.av, stsize, stget, sttl, stapp, stext, tsspure, Model.sl, Model.tr, vset, vsnoc, vpure, Puzz.sl, Puzz.tr, keyB_str, keyB_int]
  refine awp_loopN 3 65 2 (by simp -dsimp -implicitDefEqProofs (disch := first | omega | (simp only [lenr]; done) | (simp only [lenr]; omega)) only [↓amPre, amAll, ↓reduceIte, reduceCtorEq, Nat.reduceEqDiff, Nat.reduceBEq, Nat.reduceAdd, Nat.reduceLeDiff, Nat.reduceSub, Nat.reduceMul, Int.reduceToNat, List.size_toArray, tyF, MM, bu0, ipure, kpure, tpure, sspure, kset, tset, ksnoc, tsnoc, Kind.av, Twist.sl, Twist.tr, Invar.av, stsize, stget, sttl, stapp, stext, tsspure, Model.sl, Model.tr, vset, vsnoc, vpure, Puzz.sl, Puzz.tr, keyB_str, keyB_int]) (by decide) (fun i st => i ≤ A.length ∧ st.fr 27 = .i64 i ∧ st.fr 26 = .i64 A.length ∧ st.fr 25 = .ref 24 [] 1 0 A.length ∧ st.fr 5 = .ref 24 [] 1 0 A.length ∧ st.fr 3 = .ref 65 [] 2 0 (cmO p A i).2.length ∧ st.fr 4 = .mref 15 [] ∧ st.fr 1 = .loc 1 [] 0 0 ∧ st.mem 65 = some (ttr (cmO p A i).2) ∧ st.mem 15 = some (.mt true (seenM (cmO p A i).1)) ∧ st.mem 24 = some (itr A) ∧ st.mem 1 = some (.pt 3 p.sl)) (A.length) ?_ ?_
  · simp -dsimp -implicitDefEqProofs (disch := first | omega | (simp only [lenr]; done) | (simp only [lenr]; omega)) only [↓amPre, amAll, ↓reduceIte, reduceCtorEq, Nat.reduceEqDiff, Nat.reduceBEq, Nat.reduceAdd, Nat.reduceLeDiff, Nat.reduceSub, Nat.reduceMul, Int.reduceToNat, List.size_toArray, tyF, MM, bu0, ipure, kpure, tpure, sspure, kset, tset, ksnoc, tsnoc, Kind.av, Twist.sl, Twist.tr, Invar.av, stsize, stget, sttl, stapp, stext, tsspure, Model.sl, Model.tr, vset, vsnoc, vpure, Puzz.sl, Puzz.tr, keyB_str, keyB_int, nilAs_eq]
    simp [hid]
  rintro i st _ ⟨hi, f27, f26, f25, f5, f3, f4, f1, m65, m15, m24, m1⟩
  have hoi := hok i (by omega)
  by_cases c1 : i < A.length
  case neg =>
    have hie : i = A.length := by omega
    subst hie
    simp -dsimp -implicitDefEqProofs (disch := first | omega | (simp only [lenr]; done) | (simp only [lenr]; omega)) only [↓amPre, amAll, ↓reduceIte, reduceCtorEq, Nat.reduceEqDiff, Nat.reduceBEq, Nat.reduceAdd, Nat.reduceLeDiff, Nat.reduceSub, Nat.reduceMul, Int.reduceToNat, List.size_toArray, tyF, MM, bu0, ipure, kpure, tpure, sspure, kset, tset, ksnoc, tsnoc, Kind.av, Twist.sl, Twist.tr, Invar.av, stsize, stget, sttl, stapp, stext, tsspure, Model.sl, Model.tr, vset, vsnoc, vpure, Puzz.sl, Puzz.tr, keyB_str, keyB_int, f27, f26, f25, f5, f3, f4, f1, m65, m15, m24, m1]
  have hx := hA _ (mem_getD A i 0 (by omega))
  have hsi : cmO p A (i + 1) = cmI p A (cmO p A i) (A.getD i 0) A.length := rfl
  have hs0 : cmI p A (cmO p A i) (A.getD i 0) 0 = cmO p A i := rfl
  have hoj := fun j hj => cmI_ok hd.1 hA hx hoi j hj
  generalize cmO p A i = S0 at *
  generalize cmO p A (i + 1) = S1 at *
  simp -dsimp -implicitDefEqProofs (disch := first | omega | (simp only [lenr]; done) | (simp only [lenr]; omega)) only [↓amPre, amAll, ↓reduceIte, reduceCtorEq, Nat.reduceEqDiff, Nat.reduceBEq, Nat.reduceAdd, Nat.reduceLeDiff, Nat.reduceSub, Nat.reduceMul, Int.reduceToNat, List.size_toArray, tyF, MM, bu0, ipure, kpure, tpure, sspure, kset, tset, ksnoc, tsnoc, Kind.av, Twist.sl, Twist.tr, Invar.av, stsize, stget, sttl, stapp, stext, tsspure, Model.sl, Model.tr, vset, vsnoc, vpure, Puzz.sl, Puzz.tr, keyB_str, keyB_int, f27, f26, f25, f5, f3, f4, f1, m65, m15, m24, m1, c1]
  generalize A.getD i 0 = x at *
  refine awp_loop (fun j st => j ≤ A.length ∧ st.fr 33 = .i64 j ∧ st.fr 32 = .i64 A.length ∧ st.fr 31 = .ref 24 [] 1 0 A.length ∧ st.fr 7 = .i64 x ∧ st.fr 27 = .i64 i ∧ st.fr 26 = .i64 A.length ∧ st.fr 25 = .ref 24 [] 1 0 A.length ∧ st.fr 5 = .ref 24 [] 1 0 A.length ∧ st.fr 3 = .ref 65 [] 2 0 (cmI p A S0 x j).2.length ∧ st.fr 4 = .mref 15 [] ∧ st.fr 1 = .loc 1 [] 0 0 ∧ st.mem 65 = some (ttr (cmI p A S0 x j).2) ∧ st.mem 15 = some (.mt true (seenM (cmI p A S0 x j).1)) ∧ st.mem 24 = some (itr A) ∧ st.mem 1 = some (.pt 3 p.sl)) (A.length) ?_ ?_
  · simp -dsimp -implicitDefEqProofs (disch := first | omega | (simp only [lenr]; done) | (simp only [lenr]; omega)) only [↓amPre, amAll, ↓reduceIte, reduceCtorEq, Nat.reduceEqDiff, Nat.reduceBEq, Nat.reduceAdd, Nat.reduceLeDiff, Nat.reduceSub, Nat.reduceMul, Int.reduceToNat, List.size_toArray, tyF, MM, bu0, ipure, kpure, tpure, sspure, kset, tset, ksnoc, tsnoc, Kind.av, Twist.sl, Twist.tr, Invar.av, stsize, stget, sttl, stapp, stext, tsspure, Model.sl, Model.tr, vset, vsnoc, vpure, Puzz.sl, Puzz.tr, keyB_str, keyB_int, f27, f26, f25, f5, f3, f4, f1, m65, m15, m24, m1]
    simp [hs0]
  rintro j st _ ⟨hj, f33, f32, f31, f7, f27, f26, f25, f5, f3, f4, f1, m65, m15, m24, m1⟩
  have hoq := hoj j (by omega)
  have hSl : (cmI p A S0 x j).2.length ≤ 1000 := by
    have h1 := hoq.le
    have h2 : i * A.length ≤ 16 * 16 := Nat.mul_le_mul (by omega) (by omega)
    omega
  by_cases c2 : j < A.length
  case neg =>
    have hje : j = A.length := by omega
    subst hje
    rw [← hsi] at m65 m15 f3
    simp -dsimp -implicitDefEqProofs (disch := first | omega | (simp only [lenr]; done) | (simp only [lenr]; omega)) only [↓amPre, amAll, ↓reduceIte, reduceCtorEq, Nat.reduceEqDiff, Nat.reduceBEq, Nat.reduceAdd, Nat.reduceLeDiff, Nat.reduceSub, Nat.reduceMul, Int.reduceToNat, List.size_toArray, tyF, MM, bu0, ipure, kpure, tpure, sspure, kset, tset, ksnoc, tsnoc, Kind.av, Twist.sl, Twist.tr, Invar.av, stsize, stget, sttl, stapp, stext, tsspure, Model.sl, Model.tr, vset, vsnoc, vpure, Puzz.sl, Puzz.tr, keyB_str, keyB_int, f33, f32, f31, f7, f27, f26, f25, f5, f3, f4, f1, m65, m15, m24, m1]
    repeat' (first | omega | rfl | exact i64c (by omega) | exact vic (by omega) | apply And.intro)
  have hy := hA _ (mem_getD A j 0 (by omega))
  have hst : cmI p A S0 x (j + 1) = cmStep p (cmI p A S0 x j) x (A.getD j 0) := rfl
  generalize cmI p A S0 x j = S at *
  generalize cmI p A S0 x (j + 1) = S' at *
  obtain ⟨hw, hE⟩ := cmE_ok hd.1 hx hy
  have hEs := moveOk_small hN.2 hE
  have hEl := hE.1
  have l1 := iEffect p (cmW x (A.getD j 0)) hd.1 hw
  have l2 := sameMove x (A.getD j 0) (by have := hy; unfold letOk at this; omega)
  have hEE : effK p.n p.mv (cmW x (A.getD j 0)) (cmW x (A.getD j 0)).length = cmE p x (A.getD j 0) := rfl
  rw [hEE] at l1
  have l3 := stateKeyI (cmE p x (A.getD j 0)) hEs (by omega)
  have l4 := iSupport (cmE p x (A.getD j 0)) hE.2
  rw [show (cmE p x (A.getD j 0)).length = p.n.toNat by omega] at l4
  have hsa := seenM_at (fun s hs => moveOk_small hN.2 (hoq.st s hs)) hEs
  have hup := seenM_upd S.1 (cmE p x (A.getD j 0))
  have hW : itr (cmW x (A.getD j 0)) = .tr 1 [.i64 x, .i64 (A.getD j 0), .i64 (-x), .i64 (-A.getD j 0)] := rfl
  have hWs : isl (cmW x (A.getD j 0)) = .sl 1 [.i64 x, .i64 (A.getD j 0), .i64 (-x), .i64 (-A.getD j 0)] := rfl
  have ex : IntKind.i64.wrap (0 - x) = -x := by rw [wrap64_id (by unfold letOk at hx; omega)]; omega
  have ey : IntKind.i64.wrap (0 - A.getD j 0) = -A.getD j 0 := by rw [wrap64_id (by unfold letOk at hy; omega)]; omega
  unfold cmStep at hst
  generalize cmE p x (A.getD j 0) = E at *
  generalize hyy : A.getD j 0 = y at *
  rw [hWs] at l1
  by_cases c3 : sameI x y
  · rw [if_pos (.inl c3)] at hst
    subst hst
    rw [decide_eq_true c3] at l2
    simp -dsimp -implicitDefEqProofs (disch := first | omega | (simp only [lenr]; done) | (simp only [lenr]; omega)) only [↓amPre, amAll, ↓reduceIte, reduceCtorEq, Nat.reduceEqDiff, Nat.reduceBEq, Nat.reduceAdd, Nat.reduceLeDiff, Nat.reduceSub, Nat.reduceMul, Int.reduceToNat, List.size_toArray, tyF, MM, bu0, ipure, kpure, tpure, sspure, kset, tset, ksnoc, tsnoc, Kind.av, Twist.sl, Twist.tr, Invar.av, stsize, stget, sttl, stapp, stext, tsspure, Model.sl, Model.tr, vset, vsnoc, vpure, Puzz.sl, Puzz.tr, keyB_str, keyB_int, f33, f32, f31, f7, f27, f26, f25, f5, f3, f4, f1, m65, m15, m24, m1, hyy, ex, ey]
    refine callP_of (l1) ?_
    simp -dsimp -implicitDefEqProofs (disch := first | omega | (simp only [lenr]; done) | (simp only [lenr]; omega)) only [↓amPre, amAll, ↓reduceIte, reduceCtorEq, Nat.reduceEqDiff, Nat.reduceBEq, Nat.reduceAdd, Nat.reduceLeDiff, Nat.reduceSub, Nat.reduceMul, Int.reduceToNat, List.size_toArray, tyF, MM, bu0, ipure, kpure, tpure, sspure, kset, tset, ksnoc, tsnoc, Kind.av, Twist.sl, Twist.tr, Invar.av, stsize, stget, sttl, stapp, stext, tsspure, Model.sl, Model.tr, vset, vsnoc, vpure, Puzz.sl, Puzz.tr, keyB_str, keyB_int, f33, f32, f31, f7, f27, f26, f25, f5, f3, f4, f1, m65, m15, m24, m1]
    refine callP_of (l2) ?_
    simp -dsimp -implicitDefEqProofs (disch := first | omega | (simp only [lenr]; done) | (simp only [lenr]; omega)) only [↓amPre, amAll, ↓reduceIte, reduceCtorEq, Nat.reduceEqDiff, Nat.reduceBEq, Nat.reduceAdd, Nat.reduceLeDiff, Nat.reduceSub, Nat.reduceMul, Int.reduceToNat, List.size_toArray, tyF, MM, bu0, ipure, kpure, tpure, sspure, kset, tset, ksnoc, tsnoc, Kind.av, Twist.sl, Twist.tr, Invar.av, stsize, stget, sttl, stapp, stext, tsspure, Model.sl, Model.tr, vset, vsnoc, vpure, Puzz.sl, Puzz.tr, keyB_str, keyB_int, f33, f32, f31, f7, f27, f26, f25, f5, f3, f4, f1, m65, m15, m24, m1]
    repeat' (first | omega | rfl | exact i64c (by omega) | exact vic (by omega) | apply And.intro)
  rw [decide_eq_false c3] at l2
  by_cases c4 : E ∈ S.1
  · rw [if_pos (.inr c4)] at hst
    rw [if_pos c4] at hsa
    subst hst
    simp -dsimp -implicitDefEqProofs (disch := first | omega | (simp only [lenr]; done) | (simp only [lenr]; omega)) only [↓amPre, amAll, ↓reduceIte, reduceCtorEq, Nat.reduceEqDiff, Nat.reduceBEq, Nat.reduceAdd, Nat.reduceLeDiff, Nat.reduceSub, Nat.reduceMul, Int.reduceToNat, List.size_toArray, tyF, MM, bu0, ipure, kpure, tpure, sspure, kset, tset, ksnoc, tsnoc, Kind.av, Twist.sl, Twist.tr, Invar.av, stsize, stget, sttl, stapp, stext, tsspure, Model.sl, Model.tr, vset, vsnoc, vpure, Puzz.sl, Puzz.tr, keyB_str, keyB_int, f33, f32, f31, f7, f27, f26, f25, f5, f3, f4, f1, m65, m15, m24, m1, hyy, ex, ey]
    refine callP_of (l1) ?_
    simp -dsimp -implicitDefEqProofs (disch := first | omega | (simp only [lenr]; done) | (simp only [lenr]; omega)) only [↓amPre, amAll, ↓reduceIte, reduceCtorEq, Nat.reduceEqDiff, Nat.reduceBEq, Nat.reduceAdd, Nat.reduceLeDiff, Nat.reduceSub, Nat.reduceMul, Int.reduceToNat, List.size_toArray, tyF, MM, bu0, ipure, kpure, tpure, sspure, kset, tset, ksnoc, tsnoc, Kind.av, Twist.sl, Twist.tr, Invar.av, stsize, stget, sttl, stapp, stext, tsspure, Model.sl, Model.tr, vset, vsnoc, vpure, Puzz.sl, Puzz.tr, keyB_str, keyB_int, f33, f32, f31, f7, f27, f26, f25, f5, f3, f4, f1, m65, m15, m24, m1]
    refine callP_of (l2) ?_
    simp -dsimp -implicitDefEqProofs (disch := first | omega | (simp only [lenr]; done) | (simp only [lenr]; omega)) only [↓amPre, amAll, ↓reduceIte, reduceCtorEq, Nat.reduceEqDiff, Nat.reduceBEq, Nat.reduceAdd, Nat.reduceLeDiff, Nat.reduceSub, Nat.reduceMul, Int.reduceToNat, List.size_toArray, tyF, MM, bu0, ipure, kpure, tpure, sspure, kset, tset, ksnoc, tsnoc, Kind.av, Twist.sl, Twist.tr, Invar.av, stsize, stget, sttl, stapp, stext, tsspure, Model.sl, Model.tr, vset, vsnoc, vpure, Puzz.sl, Puzz.tr, keyB_str, keyB_int, f33, f32, f31, f7, f27, f26, f25, f5, f3, f4, f1, m65, m15, m24, m1]
    refine callP_of (l3) ?_
    simp -dsimp -implicitDefEqProofs (disch := first | omega | (simp only [lenr]; done) | (simp only [lenr]; omega)) only [↓amPre, amAll, ↓reduceIte, reduceCtorEq, Nat.reduceEqDiff, Nat.reduceBEq, Nat.reduceAdd, Nat.reduceLeDiff, Nat.reduceSub, Nat.reduceMul, Int.reduceToNat, List.size_toArray, tyF, MM, bu0, ipure, kpure, tpure, sspure, kset, tset, ksnoc, tsnoc, Kind.av, Twist.sl, Twist.tr, Invar.av, stsize, stget, sttl, stapp, stext, tsspure, Model.sl, Model.tr, vset, vsnoc, vpure, Puzz.sl, Puzz.tr, keyB_str, keyB_int, f33, f32, f31, f7, f27, f26, f25, f5, f3, f4, f1, m65, m15, m24, m1, hsa]
    repeat' (first | omega | rfl | exact i64c (by omega) | exact vic (by omega) | apply And.intro)
  rw [if_neg (fun q => q.elim c3 c4)] at hst
  rw [if_neg c4] at hsa
  have e1 : S.1 ++ [E] = S'.1 := by rw [hst]
  have e2 : S.2 ++ [⟨cmW x y, movL E p.n.toNat⟩] = S'.2 := by rw [hst]
  have e3 : S'.2.length = S.2.length + 1 := by rw [hst]; simp
  rw [e1] at hup
  clear hst
  simp -dsimp -implicitDefEqProofs (disch := first | omega | (simp only [lenr]; done) | (simp only [lenr]; omega)) only [↓amPre, amAll, ↓reduceIte, reduceCtorEq, Nat.reduceEqDiff, Nat.reduceBEq, Nat.reduceAdd, Nat.reduceLeDiff, Nat.reduceSub, Nat.reduceMul, Int.reduceToNat, List.size_toArray, tyF, MM, bu0, ipure, kpure, tpure, sspure, kset, tset, ksnoc, tsnoc, Kind.av, Twist.sl, Twist.tr, Invar.av, stsize, stget, sttl, stapp, stext, tsspure, Model.sl, Model.tr, vset, vsnoc, vpure, Puzz.sl, Puzz.tr, keyB_str, keyB_int, f33, f32, f31, f7, f27, f26, f25, f5, f3, f4, f1, m65, m15, m24, m1, hyy, ex, ey]
  refine callP_of (l1) ?_
  simp -dsimp -implicitDefEqProofs (disch := first | omega | (simp only [lenr]; done) | (simp only [lenr]; omega)) only [↓amPre, amAll, ↓reduceIte, reduceCtorEq, Nat.reduceEqDiff, Nat.reduceBEq, Nat.reduceAdd, Nat.reduceLeDiff, Nat.reduceSub, Nat.reduceMul, Int.reduceToNat, List.size_toArray, tyF, MM, bu0, ipure, kpure, tpure, sspure, kset, tset, ksnoc, tsnoc, Kind.av, Twist.sl, Twist.tr, Invar.av, stsize, stget, sttl, stapp, stext, tsspure, Model.sl, Model.tr, vset, vsnoc, vpure, Puzz.sl, Puzz.tr, keyB_str, keyB_int, f33, f32, f31, f7, f27, f26, f25, f5, f3, f4, f1, m65, m15, m24, m1]
  refine callP_of (l2) ?_
  simp -dsimp -implicitDefEqProofs (disch := first | omega | (simp only [lenr]; done) | (simp only [lenr]; omega)) only [↓amPre, amAll, ↓reduceIte, reduceCtorEq, Nat.reduceEqDiff, Nat.reduceBEq, Nat.reduceAdd, Nat.reduceLeDiff, Nat.reduceSub, Nat.reduceMul, Int.reduceToNat, List.size_toArray, tyF, MM, bu0, ipure, kpure, tpure, sspure, kset, tset, ksnoc, tsnoc, Kind.av, Twist.sl, Twist.tr, Invar.av, stsize, stget, sttl, stapp, stext, tsspure, Model.sl, Model.tr, vset, vsnoc, vpure, Puzz.sl, Puzz.tr, keyB_str, keyB_int, f33, f32, f31, f7, f27, f26, f25, f5, f3, f4, f1, m65, m15, m24, m1]
  refine callP_of (l3) ?_
  simp -dsimp -implicitDefEqProofs (disch := first | omega | (simp only [lenr]; done) | (simp only [lenr]; omega)) only [↓amPre, amAll, ↓reduceIte, reduceCtorEq, Nat.reduceEqDiff, Nat.reduceBEq, Nat.reduceAdd, Nat.reduceLeDiff, Nat.reduceSub, Nat.reduceMul, Int.reduceToNat, List.size_toArray, tyF, MM, bu0, ipure, kpure, tpure, sspure, kset, tset, ksnoc, tsnoc, Kind.av, Twist.sl, Twist.tr, Invar.av, stsize, stget, sttl, stapp, stext, tsspure, Model.sl, Model.tr, vset, vsnoc, vpure, Puzz.sl, Puzz.tr, keyB_str, keyB_int, f33, f32, f31, f7, f27, f26, f25, f5, f3, f4, f1, m65, m15, m24, m1, hsa]
  refine callP_of (l3) ?_
  simp -dsimp -implicitDefEqProofs (disch := first | omega | (simp only [lenr]; done) | (simp only [lenr]; omega)) only [↓amPre, amAll, ↓reduceIte, reduceCtorEq, Nat.reduceEqDiff, Nat.reduceBEq, Nat.reduceAdd, Nat.reduceLeDiff, Nat.reduceSub, Nat.reduceMul, Int.reduceToNat, List.size_toArray, tyF, MM, bu0, ipure, kpure, tpure, sspure, kset, tset, ksnoc, tsnoc, Kind.av, Twist.sl, Twist.tr, Invar.av, stsize, stget, sttl, stapp, stext, tsspure, Model.sl, Model.tr, vset, vsnoc, vpure, Puzz.sl, Puzz.tr, keyB_str, keyB_int, f33, f32, f31, f7, f27, f26, f25, f5, f3, f4, f1, m65, m15, m24, m1, hup]
  refine callP_of (l4) ?_
  simp -dsimp -implicitDefEqProofs (disch := first | omega | (simp only [lenr]; done) | (simp only [lenr]; omega)) only [↓amPre, amAll, ↓reduceIte, reduceCtorEq, Nat.reduceEqDiff, Nat.reduceBEq, Nat.reduceAdd, Nat.reduceLeDiff, Nat.reduceSub, Nat.reduceMul, Int.reduceToNat, List.size_toArray, tyF, MM, bu0, ipure, kpure, tpure, sspure, kset, tset, ksnoc, tsnoc, Kind.av, Twist.sl, Twist.tr, Invar.av, stsize, stget, sttl, stapp, stext, tsspure, Model.sl, Model.tr, vset, vsnoc, vpure, Puzz.sl, Puzz.tr, keyB_str, keyB_int, f33, f32, f31, f7, f27, f26, f25, f5, f3, f4, f1, m65, m15, m24, m1]
  have hT : AV.agg [.tr 1 [.i64 x, .i64 y, .i64 (-x), .i64 (-y)], itr (movL E p.n.toNat)] = Twist.tr ⟨cmW x y, movL E p.n.toNat⟩ := rfl
  simp -dsimp -implicitDefEqProofs (disch := first | omega | (simp only [lenr]; done) | (simp only [lenr]; omega)) only [↓amPre, amAll, ↓reduceIte, reduceCtorEq, Nat.reduceEqDiff, Nat.reduceBEq, Nat.reduceAdd, Nat.reduceLeDiff, Nat.reduceSub, Nat.reduceMul, Int.reduceToNat, List.size_toArray, tyF, MM, bu0, ipure, kpure, tpure, sspure, kset, tset, ksnoc, tsnoc, Kind.av, Twist.sl, Twist.tr, Invar.av, stsize, stget, sttl, stapp, stext, tsspure, Model.sl, Model.tr, vset, vsnoc, vpure, Puzz.sl, Puzz.tr, keyB_str, keyB_int, f33, f32, f31, f7, f27, f26, f25, f5, f3, f4, f1, m65, m15, m24, m1, hT, e2, e3]
  repeat' (first | omega | rfl | exact i64c (by omega) | exact vic (by omega) | apply And.intro)
theorem sCommutator (p : Puzz) (h : smallP p) : SpecAt Try.prog 61 [p.sl] (ttr (cmR p)) := by
  have q0 := sPuzzle p h
  by_cases hd : puzzOk p
  case neg =>
    have hz : cmR p = [] := if_neg hd
    rw [decide_eq_false hd] at q0
    rw [hz]
    refine spec_of_awp (M := MM) (np := 1) (fz := false) mixed Try.func61 rfl rfl (by decide) rfl (Nat.le_refl _) (by decide +kernel) (.inl rfl) (by first | trivial | simp only [sigsOk_nil, sigsOk_some, sigsOk_none, sig_tr, sig_pt, sig_mt, sig_agg, List.map_cons, List.map_nil, sig1_tr, sig1_pt, sig1_v, and_self, true_and, List.length_map, List.length_set]) ?_
    simp -dsimp -implicitDefEqProofs (disch := first | omega | (simp only [lenr]; done) | (simp only [lenr]; omega)) only [↓amPre, amAll, ↓reduceIte, reduceCtorEq, Nat.reduceEqDiff, Nat.reduceBEq, Nat.reduceAdd, Nat.reduceLeDiff, Nat.reduceSub, Nat.reduceMul, Int.reduceToNat, List.size_toArray, tyF, MM, bu0, ipure, kpure, tpure, sspure, kset, tset, ksnoc, tsnoc, Kind.av, Twist.sl, Twist.tr, Invar.av, stsize, stget, sttl, stapp, stext, tsspure, Model.sl, Model.tr, vset, vsnoc, vpure, Puzz.sl, Puzz.tr, keyB_str, keyB_int]
    refine callP_of (q0) ?_
    simp -dsimp -implicitDefEqProofs (disch := first | omega | (simp only [lenr]; done) | (simp only [lenr]; omega)) only [↓amPre, amAll, ↓reduceIte, reduceCtorEq, Nat.reduceEqDiff, Nat.reduceBEq, Nat.reduceAdd, Nat.reduceLeDiff, Nat.reduceSub, Nat.reduceMul, Int.reduceToNat, List.size_toArray, tyF, MM, bu0, ipure, kpure, tpure, sspure, kset, tset, ksnoc, tsnoc, Kind.av, Twist.sl, Twist.tr, Invar.av, stsize, stget, sttl, stapp, stext, tsspure, Model.sl, Model.tr, vset, vsnoc, vpure, Puzz.sl, Puzz.tr, keyB_str, keyB_int]
    try rfl
  rw [decide_eq_true hd] at q0
  have hn := puzz_nm hd
  have hN := hd.1.1
  have hA := letL_ok hn.2
  have hAl := letL_len p.mv.length
  have hz : cmR p = (cmO p (letL p.mv.length) (letL p.mv.length).length).2 := if_pos hd
  obtain ⟨N, hNN⟩ : ∃ N : Nat, p.n = N := ⟨p.n.toNat, by omega⟩
  have l0 := spec_frz (sIdentity N (by omega)) rfl (itr_fz _)
  rw [← hNN] at l0
  have hid : cmO p (letL p.mv.length) 0 = ([runI 0 N], []) := by rw [cmO, hNN]; rfl
  have hok := fun i hi => cmO_ok hd.1 hA i hi
  have ll := lettersS p hn.2
  rw [hz]
  generalize hAe : letL p.mv.length = A at *
  refine spec_of_awp (M := MM) (np := 1) (fz := false) mixed Try.func61 rfl rfl (by decide) rfl (Nat.le_refl _) (by decide +kernel) (.inl rfl) (by first | trivial | simp only [sigsOk_nil, sigsOk_some, sigsOk_none, sig_tr, sig_pt, sig_mt, sig_agg, List.map_cons, List.map_nil, sig1_tr, sig1_pt, sig1_v, and_self, true_and, List.length_map, List.length_set]) ?_
  simp -dsimp -implicitDefEqProofs (disch := first | omega | (simp only [lenr]; done) | (simp only [lenr]; omega)) only [↓amPre, amAll, ↓reduceIte, reduceCtorEq, Nat.reduceEqDiff, Nat.reduceBEq, Nat.reduceAdd, Nat.reduceLeDiff, Nat.reduceSub, Nat.reduceMul, Int.reduceToNat, List.size_toArray, tyF, MM, bu0, ipure, kpure, tpure, sspure, kset, tset, ksnoc, tsnoc, Kind.av, Twist.sl, Twist.tr, Invar.av, stsize, stget, sttl, stapp, stext, tsspure, Model.sl, Model.tr, vset, vsnoc, vpure, Puzz.sl, Puzz.tr, keyB_str, keyB_int]
  refine callP_of (q0) ?_
  simp -dsimp -implicitDefEqProofs (disch := first | omega | (simp only [lenr]; done) | (simp only [lenr]; omega)) only [↓amPre, amAll, ↓reduceIte, reduceCtorEq, Nat.reduceEqDiff, Nat.reduceBEq, Nat.reduceAdd, Nat.reduceLeDiff, Nat.reduceSub, Nat.reduceMul, Int.reduceToNat, List.size_toArray, tyF, MM, bu0, ipure, kpure, tpure, sspure, kset, tset, ksnoc, tsnoc, Kind.av, Twist.sl, Twist.tr, Invar.av, stsize, stget, sttl, stapp, stext, tsspure, Model.sl, Model.tr, vset, vsnoc, vpure, Puzz.sl, Puzz.tr, keyB_str, keyB_int]
  refine callP_of (l0) ?_
  simp -dsimp -implicitDefEqProofs (disch := first | omega | (simp only [lenr]; done) | (simp only [lenr]; omega)) only [↓amPre, amAll, ↓reduceIte, reduceCtorEq, Nat.reduceEqDiff, Nat.reduceBEq, Nat.reduceAdd, Nat.reduceLeDiff, Nat.reduceSub, Nat.reduceMul, Int.reduceToNat, List.size_toArray, tyF, MM, bu0, ipure, kpure, tpure, sspure, kset, tset, ksnoc, tsnoc, Kind.av, Twist.sl, Twist.tr, Invar.av, stsize, stget, sttl, stapp, stext, tsspure, Model.sl, Model.tr, vset, vsnoc, vpure, Puzz.sl, Puzz.tr, keyB_str, keyB_int]
  refine callP_of (ll) ?_
  simp -dsimp -implicitDefEqProofs (disch := first | omega | (simp only [lenr]; done) | (simp only [lenr]; omega)) only [↓amPre, amAll, ↓reduceIte, reduceCtorEq, Nat.reduceEqDiff, Nat.reduceBEq, Nat.reduceAdd, Nat.reduceLeDiff, Nat.reduceSub, Nat.reduceMul, Int.reduceToNat, List.size_toArray, tyF, MM, bu0, ipure, kpure, tpure, sspure, kset, tset, ksnoc, tsnoc, Kind.av, Twist.sl, Twist.tr, Invar.av, stsize, stget, sttl, stapp, stext, tsspure, Model.sl, Model.tr, vset, vsnoc, vpure, Puzz.sl, Puzz.tr, keyB_str, keyB_int]
  refine awp_loop (fun i st => i ≤ A.length ∧ st.fr 6 = .i64 i ∧ st.fr 5 = .ref 22 [] 1 0 A.length ∧ st.fr 1 = .loc 1 [] 0 0 ∧ st.mem 22 = some (itr A) ∧ st.mem 1 = some (.pt 3 p.sl) ∧ (((cmO p A i).2 = [] ∧ (cmO p A i).1 = [runI 0 N] ∧ st.fr 3 = .ref 12 [] 2 0 0 ∧ st.mem 12 = some (.tr 2 []) ∧ st.fr 4 = .ref 20 [] 1 0 1 ∧ st.mem 20 = some (.tr 1 [isl (runI 0 N)])) ∨ (st.fr 3 = .ref 77 [] 2 0 (cmO p A i).2.length ∧ st.mem 77 = some (ttr (cmO p A i).2) ∧ st.fr 4 = .ref 70 [] 1 0 (cmO p A i).1.length ∧ st.mem 70 = some (.tr 1 ((cmO p A i).1.map fun l => isl l))))) (A.length) ?_ ?_
  · simp -dsimp -implicitDefEqProofs (disch := first | omega | (simp only [lenr]; done) | (simp only [lenr]; omega)) only [↓amPre, amAll, ↓reduceIte, reduceCtorEq, Nat.reduceEqDiff, Nat.reduceBEq, Nat.reduceAdd, Nat.reduceLeDiff, Nat.reduceSub, Nat.reduceMul, Int.reduceToNat, List.size_toArray, tyF, MM, bu0, ipure, kpure, tpure, sspure, kset, tset, ksnoc, tsnoc, Kind.av, Twist.sl, Twist.tr, Invar.av, stsize, stget, sttl, stapp, stext, tsspure, Model.sl, Model.tr, vset, vsnoc, vpure, Puzz.sl, Puzz.tr, keyB_str, keyB_int]
    simp [hid]
  rintro i st _ ⟨hi, f6, f5, f1, m22, m1, ei⟩
  have hoi := hok i (by omega)
  by_cases c1 : i < A.length
  case neg =>
    have hie : i = A.length := by omega
    subst hie
    rcases ei with ⟨d1, d2, g3, g12, g4, g20⟩ | ⟨g3, g77, g4, g70⟩
    · simp -dsimp -implicitDefEqProofs (disch := first | omega | (simp only [lenr]; done) | (simp only [lenr]; omega)) only [↓amPre, amAll, ↓reduceIte, reduceCtorEq, Nat.reduceEqDiff, Nat.reduceBEq, Nat.reduceAdd, Nat.reduceLeDiff, Nat.reduceSub, Nat.reduceMul, Int.reduceToNat, List.size_toArray, tyF, MM, bu0, ipure, kpure, tpure, sspure, kset, tset, ksnoc, tsnoc, Kind.av, Twist.sl, Twist.tr, Invar.av, stsize, stget, sttl, stapp, stext, tsspure, Model.sl, Model.tr, vset, vsnoc, vpure, Puzz.sl, Puzz.tr, keyB_str, keyB_int, f6, f5, f1, m22, m1, g3, g12, g4, g20, d1]
    · simp -dsimp -implicitDefEqProofs (disch := first | omega | (simp only [lenr]; done) | (simp only [lenr]; omega)) only [↓amPre, amAll, ↓reduceIte, reduceCtorEq, Nat.reduceEqDiff, Nat.reduceBEq, Nat.reduceAdd, Nat.reduceLeDiff, Nat.reduceSub, Nat.reduceMul, Int.reduceToNat, List.size_toArray, tyF, MM, bu0, ipure, kpure, tpure, sspure, kset, tset, ksnoc, tsnoc, Kind.av, Twist.sl, Twist.tr, Invar.av, stsize, stget, sttl, stapp, stext, tsspure, Model.sl, Model.tr, vset, vsnoc, vpure, Puzz.sl, Puzz.tr, keyB_str, keyB_int, f6, f5, f1, m22, m1, g3, g77, g4, g70]
  have hx := hA _ (mem_getD A i 0 (by omega))
  have hsi : cmO p A (i + 1) = cmI p A (cmO p A i) (A.getD i 0) A.length := rfl
  have hs0 : cmI p A (cmO p A i) (A.getD i 0) 0 = cmO p A i := rfl
  have hoj := fun j hj => cmI_ok hd.1 hA hx hoi j hj
  generalize cmO p A i = S0 at *
  generalize cmO p A (i + 1) = S1 at *
  simp -dsimp -implicitDefEqProofs (disch := first | omega | (simp only [lenr]; done) | (simp only [lenr]; omega)) only [↓amPre, amAll, ↓reduceIte, reduceCtorEq, Nat.reduceEqDiff, Nat.reduceBEq, Nat.reduceAdd, Nat.reduceLeDiff, Nat.reduceSub, Nat.reduceMul, Int.reduceToNat, List.size_toArray, tyF, MM, bu0, ipure, kpure, tpure, sspure, kset, tset, ksnoc, tsnoc, Kind.av, Twist.sl, Twist.tr, Invar.av, stsize, stget, sttl, stapp, stext, tsspure, Model.sl, Model.tr, vset, vsnoc, vpure, Puzz.sl, Puzz.tr, keyB_str, keyB_int, f6, f5, f1, m22, m1, c1]
  refine awp_loop (fun j st => j ≤ A.length ∧ st.fr 7 = .i64 j ∧ st.fr 6 = .i64 i ∧ st.fr 5 = .ref 22 [] 1 0 A.length ∧ st.fr 1 = .loc 1 [] 0 0 ∧ st.mem 22 = some (itr A) ∧ st.mem 1 = some (.pt 3 p.sl) ∧ (((cmI p A S0 (A.getD i 0) j).2 = [] ∧ (cmI p A S0 (A.getD i 0) j).1 = [runI 0 N] ∧ st.fr 3 = .ref 12 [] 2 0 0 ∧ st.mem 12 = some (.tr 2 []) ∧ st.fr 4 = .ref 20 [] 1 0 1 ∧ st.mem 20 = some (.tr 1 [isl (runI 0 N)])) ∨ (st.fr 3 = .ref 77 [] 2 0 (cmI p A S0 (A.getD i 0) j).2.length ∧ st.mem 77 = some (ttr (cmI p A S0 (A.getD i 0) j).2) ∧ st.fr 4 = .ref 70 [] 1 0 (cmI p A S0 (A.getD i 0) j).1.length ∧ st.mem 70 = some (.tr 1 ((cmI p A S0 (A.getD i 0) j).1.map fun l => isl l))))) (A.length) ?_ ?_
  · rcases ei with ⟨d1, d2, g3, g12, g4, g20⟩ | ⟨g3, g77, g4, g70⟩
    · simp -dsimp -implicitDefEqProofs (disch := first | omega | (simp only [lenr]; done) | (simp only [lenr]; omega)) only [↓amPre, amAll, ↓reduceIte, reduceCtorEq, Nat.reduceEqDiff, Nat.reduceBEq, Nat.reduceAdd, Nat.reduceLeDiff, Nat.reduceSub, Nat.reduceMul, Int.reduceToNat, List.size_toArray, tyF, MM, bu0, ipure, kpure, tpure, sspure, kset, tset, ksnoc, tsnoc, Kind.av, Twist.sl, Twist.tr, Invar.av, stsize, stget, sttl, stapp, stext, tsspure, Model.sl, Model.tr, vset, vsnoc, vpure, Puzz.sl, Puzz.tr, keyB_str, keyB_int, f6, f5, f1, m22, m1, g3, g12, g4, g20]
      simp only [hs0, d1, d2, true_and, and_true, List.length_nil, List.length_cons]
      simp
    · simp -dsimp -implicitDefEqProofs (disch := first | omega | (simp only [lenr]; done) | (simp only [lenr]; omega)) only [↓amPre, amAll, ↓reduceIte, reduceCtorEq, Nat.reduceEqDiff, Nat.reduceBEq, Nat.reduceAdd, Nat.reduceLeDiff, Nat.reduceSub, Nat.reduceMul, Int.reduceToNat, List.size_toArray, tyF, MM, bu0, ipure, kpure, tpure, sspure, kset, tset, ksnoc, tsnoc, Kind.av, Twist.sl, Twist.tr, Invar.av, stsize, stget, sttl, stapp, stext, tsspure, Model.sl, Model.tr, vset, vsnoc, vpure, Puzz.sl, Puzz.tr, keyB_str, keyB_int, f6, f5, f1, m22, m1, g3, g77, g4, g70]
      simp only [hs0]
      simp
  clear ei
  rintro j st _ ⟨hj, f7, f6, f5, f1, m22, m1, ej⟩
  have hoq := hoj j (by omega)
  have hSl : (cmI p A S0 (A.getD i 0) j).2.length ≤ 1000 := by
    have h1 := hoq.le
    have h2 : i * A.length ≤ 16 * 16 := Nat.mul_le_mul (by omega) (by omega)
    omega
  have hSl1 := hoq.len
  by_cases c2 : j < A.length
  case neg =>
    have hje : j = A.length := by omega
    subst hje
    rw [← hsi] at ej
    rcases ej with ⟨d1, d2, g3, g12, g4, g20⟩ | ⟨g3, g77, g4, g70⟩
    · simp -dsimp -implicitDefEqProofs (disch := first | omega | (simp only [lenr]; done) | (simp only [lenr]; omega)) only [↓amPre, amAll, ↓reduceIte, reduceCtorEq, Nat.reduceEqDiff, Nat.reduceBEq, Nat.reduceAdd, Nat.reduceLeDiff, Nat.reduceSub, Nat.reduceMul, Int.reduceToNat, List.size_toArray, tyF, MM, bu0, ipure, kpure, tpure, sspure, kset, tset, ksnoc, tsnoc, Kind.av, Twist.sl, Twist.tr, Invar.av, stsize, stget, sttl, stapp, stext, tsspure, Model.sl, Model.tr, vset, vsnoc, vpure, Puzz.sl, Puzz.tr, keyB_str, keyB_int, f7, f6, f5, f1, m22, m1, g3, g12, g4, g20]
      simp [d1, d2, c1]
      try omega
    · simp -dsimp -implicitDefEqProofs (disch := first | omega | (simp only [lenr]; done) | (simp only [lenr]; omega)) only [↓amPre, amAll, ↓reduceIte, reduceCtorEq, Nat.reduceEqDiff, Nat.reduceBEq, Nat.reduceAdd, Nat.reduceLeDiff, Nat.reduceSub, Nat.reduceMul, Int.reduceToNat, List.size_toArray, tyF, MM, bu0, ipure, kpure, tpure, sspure, kset, tset, ksnoc, tsnoc, Kind.av, Twist.sl, Twist.tr, Invar.av, stsize, stget, sttl, stapp, stext, tsspure, Model.sl, Model.tr, vset, vsnoc, vpure, Puzz.sl, Puzz.tr, keyB_str, keyB_int, f7, f6, f5, f1, m22, m1, g3, g77, g4, g70]
      simp [c1]
      try omega
  have hy := hA _ (mem_getD A j 0 (by omega))
  have hst : cmI p A S0 (A.getD i 0) (j + 1) = cmStep p (cmI p A S0 (A.getD i 0) j) (A.getD i 0) (A.getD j 0) := rfl
  generalize cmI p A S0 (A.getD i 0) j = S at *
  generalize cmI p A S0 (A.getD i 0) (j + 1) = S' at *
  obtain ⟨hw, hE⟩ := cmE_ok hd.1 hx hy
  have hEl := hE.1
  have l1 := sEffect p (cmW (A.getD i 0) (A.getD j 0)) hd.1 hw
  have hEE : effK p.n p.mv (cmW (A.getD i 0) (A.getD j 0)) (cmW (A.getD i 0) (A.getD j 0)).length = cmE p (A.getD i 0) (A.getD j 0) := rfl
  rw [hEE] at l1
  have l4 := moved (cmE p (A.getD i 0) (A.getD j 0)) (by omega)
  rw [show (cmE p (A.getD i 0) (A.getD j 0)).length = p.n.toNat by omega] at l4
  have l3 := amongS S.1 (cmE p (A.getD i 0) (A.getD j 0)) (by omega) (fun t ht => by have := (hoq.st t ht).1; omega)
  have hW : itr (cmW (A.getD i 0) (A.getD j 0)) = .tr 1 [.i64 (A.getD i 0), .i64 (A.getD j 0), .i64 (-A.getD i 0), .i64 (-A.getD j 0)] := rfl
  have hWs : isl (cmW (A.getD i 0) (A.getD j 0)) = .sl 1 [.i64 (A.getD i 0), .i64 (A.getD j 0), .i64 (-A.getD i 0), .i64 (-A.getD j 0)] := rfl
  have ex : IntKind.i64.wrap (0 - A.getD i 0) = -A.getD i 0 := by rw [wrap64_id (by unfold letOk at hx; omega)]; omega
  have ey : IntKind.i64.wrap (0 - A.getD j 0) = -A.getD j 0 := by rw [wrap64_id (by unfold letOk at hy; omega)]; omega
  unfold cmStep at hst
  generalize cmE p (A.getD i 0) (A.getD j 0) = E at *
  generalize hxx : A.getD i 0 = x at *
  generalize hyy : A.getD j 0 = y at *
  rw [hWs] at l1
  have hEf : AV.fzL (E.map AV.i64) = E.map AV.i64 := by rw [fzL_map, ints_fz]
  by_cases c3 : x = y
  · rw [if_pos (.inl (.inl c3))] at hst
    have c3' := decide_eq_true c3
    subst hst
    rcases ej with ⟨d1, d2, g3, g12, g4, g20⟩ | ⟨g3, g77, g4, g70⟩
    · simp -dsimp -implicitDefEqProofs (disch := first | omega | (simp only [lenr]; done) | (simp only [lenr]; omega)) only [↓amPre, amAll, ↓reduceIte, reduceCtorEq, Nat.reduceEqDiff, Nat.reduceBEq, Nat.reduceAdd, Nat.reduceLeDiff, Nat.reduceSub, Nat.reduceMul, Int.reduceToNat, List.size_toArray, tyF, MM, bu0, ipure, kpure, tpure, sspure, kset, tset, ksnoc, tsnoc, Kind.av, Twist.sl, Twist.tr, Invar.av, stsize, stget, sttl, stapp, stext, tsspure, Model.sl, Model.tr, vset, vsnoc, vpure, Puzz.sl, Puzz.tr, keyB_str, keyB_int, f7, f6, f5, f1, m22, m1, g3, g12, g4, g20, hxx, hyy, ex, ey, c3']
      refine callP_frz l1 ?_
      simp -dsimp -implicitDefEqProofs (disch := first | omega | (simp only [lenr]; done) | (simp only [lenr]; omega)) only [↓amPre, amAll, ↓reduceIte, reduceCtorEq, Nat.reduceEqDiff, Nat.reduceBEq, Nat.reduceAdd, Nat.reduceLeDiff, Nat.reduceSub, Nat.reduceMul, Int.reduceToNat, List.size_toArray, tyF, MM, bu0, ipure, kpure, tpure, sspure, kset, tset, ksnoc, tsnoc, Kind.av, Twist.sl, Twist.tr, Invar.av, stsize, stget, sttl, stapp, stext, tsspure, Model.sl, Model.tr, vset, vsnoc, vpure, Puzz.sl, Puzz.tr, keyB_str, keyB_int, f7, f6, f5, f1, m22, m1, itr_fz, g3, g12, g4, g20, c3']
      exact ⟨c2, by omega, .inl ⟨d1, d2⟩⟩
    · simp -dsimp -implicitDefEqProofs (disch := first | omega | (simp only [lenr]; done) | (simp only [lenr]; omega)) only [↓amPre, amAll, ↓reduceIte, reduceCtorEq, Nat.reduceEqDiff, Nat.reduceBEq, Nat.reduceAdd, Nat.reduceLeDiff, Nat.reduceSub, Nat.reduceMul, Int.reduceToNat, List.size_toArray, tyF, MM, bu0, ipure, kpure, tpure, sspure, kset, tset, ksnoc, tsnoc, Kind.av, Twist.sl, Twist.tr, Invar.av, stsize, stget, sttl, stapp, stext, tsspure, Model.sl, Model.tr, vset, vsnoc, vpure, Puzz.sl, Puzz.tr, keyB_str, keyB_int, f7, f6, f5, f1, m22, m1, g3, g77, g4, g70, hxx, hyy, ex, ey, c3']
      refine callP_frz l1 ?_
      simp -dsimp -implicitDefEqProofs (disch := first | omega | (simp only [lenr]; done) | (simp only [lenr]; omega)) only [↓amPre, amAll, ↓reduceIte, reduceCtorEq, Nat.reduceEqDiff, Nat.reduceBEq, Nat.reduceAdd, Nat.reduceLeDiff, Nat.reduceSub, Nat.reduceMul, Int.reduceToNat, List.size_toArray, tyF, MM, bu0, ipure, kpure, tpure, sspure, kset, tset, ksnoc, tsnoc, Kind.av, Twist.sl, Twist.tr, Invar.av, stsize, stget, sttl, stapp, stext, tsspure, Model.sl, Model.tr, vset, vsnoc, vpure, Puzz.sl, Puzz.tr, keyB_str, keyB_int, f7, f6, f5, f1, m22, m1, itr_fz, g3, g77, g4, g70, c3']
      exact ⟨c2, by omega⟩
  have c3' := decide_eq_false c3
  by_cases c4 : x = -y
  · rw [if_pos (.inl (.inr c4))] at hst
    have c4' := decide_eq_true c4
    subst hst
    rcases ej with ⟨d1, d2, g3, g12, g4, g20⟩ | ⟨g3, g77, g4, g70⟩
    · simp -dsimp -implicitDefEqProofs (disch := first | omega | (simp only [lenr]; done) | (simp only [lenr]; omega)) only [↓amPre, amAll, ↓reduceIte, reduceCtorEq, Nat.reduceEqDiff, Nat.reduceBEq, Nat.reduceAdd, Nat.reduceLeDiff, Nat.reduceSub, Nat.reduceMul, Int.reduceToNat, List.size_toArray, tyF, MM, bu0, ipure, kpure, tpure, sspure, kset, tset, ksnoc, tsnoc, Kind.av, Twist.sl, Twist.tr, Invar.av, stsize, stget, sttl, stapp, stext, tsspure, Model.sl, Model.tr, vset, vsnoc, vpure, Puzz.sl, Puzz.tr, keyB_str, keyB_int, f7, f6, f5, f1, m22, m1, g3, g12, g4, g20, hxx, hyy, ex, ey, c3', c4']
      refine callP_frz l1 ?_
      simp -dsimp -implicitDefEqProofs (disch := first | omega | (simp only [lenr]; done) | (simp only [lenr]; omega)) only [↓amPre, amAll, ↓reduceIte, reduceCtorEq, Nat.reduceEqDiff, Nat.reduceBEq, Nat.reduceAdd, Nat.reduceLeDiff, Nat.reduceSub, Nat.reduceMul, Int.reduceToNat, List.size_toArray, tyF, MM, bu0, ipure, kpure, tpure, sspure, kset, tset, ksnoc, tsnoc, Kind.av, Twist.sl, Twist.tr, Invar.av, stsize, stget, sttl, stapp, stext, tsspure, Model.sl, Model.tr, vset, vsnoc, vpure, Puzz.sl, Puzz.tr, keyB_str, keyB_int, f7, f6, f5, f1, m22, m1, itr_fz, g3, g12, g4, g20, c3', c4']
      exact ⟨c2, by omega, .inl ⟨d1, d2⟩⟩
    · simp -dsimp -implicitDefEqProofs (disch := first | omega | (simp only [lenr]; done) | (simp only [lenr]; omega)) only [↓amPre, amAll, ↓reduceIte, reduceCtorEq, Nat.reduceEqDiff, Nat.reduceBEq, Nat.reduceAdd, Nat.reduceLeDiff, Nat.reduceSub, Nat.reduceMul, Int.reduceToNat, List.size_toArray, tyF, MM, bu0, ipure, kpure, tpure, sspure, kset, tset, ksnoc, tsnoc, Kind.av, Twist.sl, Twist.tr, Invar.av, stsize, stget, sttl, stapp, stext, tsspure, Model.sl, Model.tr, vset, vsnoc, vpure, Puzz.sl, Puzz.tr, keyB_str, keyB_int, f7, f6, f5, f1, m22, m1, g3, g77, g4, g70, hxx, hyy, ex, ey, c3', c4']
      refine callP_frz l1 ?_
      simp -dsimp -implicitDefEqProofs (disch := first | omega | (simp only [lenr]; done) | (simp only [lenr]; omega)) only [↓amPre, amAll, ↓reduceIte, reduceCtorEq, Nat.reduceEqDiff, Nat.reduceBEq, Nat.reduceAdd, Nat.reduceLeDiff, Nat.reduceSub, Nat.reduceMul, Int.reduceToNat, List.size_toArray, tyF, MM, bu0, ipure, kpure, tpure, sspure, kset, tset, ksnoc, tsnoc, Kind.av, Twist.sl, Twist.tr, Invar.av, stsize, stget, sttl, stapp, stext, tsspure, Model.sl, Model.tr, vset, vsnoc, vpure, Puzz.sl, Puzz.tr, keyB_str, keyB_int, f7, f6, f5, f1, m22, m1, itr_fz, g3, g77, g4, g70, c3', c4']
      exact ⟨c2, by omega⟩
  have c4' := decide_eq_false c4
  by_cases c5 : E ∈ S.1
  · rw [if_pos (.inr c5)] at hst
    subst hst
    rw [decide_eq_true c5] at l3
    rcases ej with ⟨d1, d2, g3, g12, g4, g20⟩ | ⟨g3, g77, g4, g70⟩
    · rw [d2] at l3
      simp -dsimp -implicitDefEqProofs (disch := first | omega | (simp only [lenr]; done) | (simp only [lenr]; omega)) only [↓amPre, amAll, ↓reduceIte, reduceCtorEq, Nat.reduceEqDiff, Nat.reduceBEq, Nat.reduceAdd, Nat.reduceLeDiff, Nat.reduceSub, Nat.reduceMul, Int.reduceToNat, List.size_toArray, tyF, MM, bu0, ipure, kpure, tpure, sspure, kset, tset, ksnoc, tsnoc, Kind.av, Twist.sl, Twist.tr, Invar.av, stsize, stget, sttl, stapp, stext, tsspure, Model.sl, Model.tr, vset, vsnoc, vpure, Puzz.sl, Puzz.tr, keyB_str, keyB_int, f7, f6, f5, f1, m22, m1, g3, g12, g4, g20, hxx, hyy, ex, ey, c3', c4']
      refine callP_frz l1 ?_
      simp -dsimp -implicitDefEqProofs (disch := first | omega | (simp only [lenr]; done) | (simp only [lenr]; omega)) only [↓amPre, amAll, ↓reduceIte, reduceCtorEq, Nat.reduceEqDiff, Nat.reduceBEq, Nat.reduceAdd, Nat.reduceLeDiff, Nat.reduceSub, Nat.reduceMul, Int.reduceToNat, List.size_toArray, tyF, MM, bu0, ipure, kpure, tpure, sspure, kset, tset, ksnoc, tsnoc, Kind.av, Twist.sl, Twist.tr, Invar.av, stsize, stget, sttl, stapp, stext, tsspure, Model.sl, Model.tr, vset, vsnoc, vpure, Puzz.sl, Puzz.tr, keyB_str, keyB_int, f7, f6, f5, f1, m22, m1, itr_fz, g3, g12, g4, g20, c3', c4', islfz, hEf]
      refine callP_of (l3) ?_
      simp -dsimp -implicitDefEqProofs (disch := first | omega | (simp only [lenr]; done) | (simp only [lenr]; omega)) only [↓amPre, amAll, ↓reduceIte, reduceCtorEq, Nat.reduceEqDiff, Nat.reduceBEq, Nat.reduceAdd, Nat.reduceLeDiff, Nat.reduceSub, Nat.reduceMul, Int.reduceToNat, List.size_toArray, tyF, MM, bu0, ipure, kpure, tpure, sspure, kset, tset, ksnoc, tsnoc, Kind.av, Twist.sl, Twist.tr, Invar.av, stsize, stget, sttl, stapp, stext, tsspure, Model.sl, Model.tr, vset, vsnoc, vpure, Puzz.sl, Puzz.tr, keyB_str, keyB_int, f7, f6, f5, f1, m22, m1, g3, g12, g4, g20, c3', c4']
      exact ⟨c2, by omega, .inl ⟨d1, d2⟩⟩
    · simp -dsimp -implicitDefEqProofs (disch := first | omega | (simp only [lenr]; done) | (simp only [lenr]; omega)) only [↓amPre, amAll, ↓reduceIte, reduceCtorEq, Nat.reduceEqDiff, Nat.reduceBEq, Nat.reduceAdd, Nat.reduceLeDiff, Nat.reduceSub, Nat.reduceMul, Int.reduceToNat, List.size_toArray, tyF, MM, bu0, ipure, kpure, tpure, sspure, kset, tset, ksnoc, tsnoc, Kind.av, Twist.sl, Twist.tr, Invar.av, stsize, stget, sttl, stapp, stext, tsspure, Model.sl, Model.tr, vset, vsnoc, vpure, Puzz.sl, Puzz.tr, keyB_str, keyB_int, f7, f6, f5, f1, m22, m1, g3, g77, g4, g70, hxx, hyy, ex, ey, c3', c4']
      refine callP_frz l1 ?_
      simp -dsimp -implicitDefEqProofs (disch := first | omega | (simp only [lenr]; done) | (simp only [lenr]; omega)) only [↓amPre, amAll, ↓reduceIte, reduceCtorEq, Nat.reduceEqDiff, Nat.reduceBEq, Nat.reduceAdd, Nat.reduceLeDiff, Nat.reduceSub, Nat.reduceMul, Int.reduceToNat, List.size_toArray, tyF, MM, bu0, ipure, kpure, tpure, sspure, kset, tset, ksnoc, tsnoc, Kind.av, Twist.sl, Twist.tr, Invar.av, stsize, stget, sttl, stapp, stext, tsspure, Model.sl, Model.tr, vset, vsnoc, vpure, Puzz.sl, Puzz.tr, keyB_str, keyB_int, f7, f6, f5, f1, m22, m1, itr_fz, g3, g77, g4, g70, c3', c4', islfz, hEf]
      refine callP_of (l3) ?_
      simp -dsimp -implicitDefEqProofs (disch := first | omega | (simp only [lenr]; done) | (simp only [lenr]; omega)) only [↓amPre, amAll, ↓reduceIte, reduceCtorEq, Nat.reduceEqDiff, Nat.reduceBEq, Nat.reduceAdd, Nat.reduceLeDiff, Nat.reduceSub, Nat.reduceMul, Int.reduceToNat, List.size_toArray, tyF, MM, bu0, ipure, kpure, tpure, sspure, kset, tset, ksnoc, tsnoc, Kind.av, Twist.sl, Twist.tr, Invar.av, stsize, stget, sttl, stapp, stext, tsspure, Model.sl, Model.tr, vset, vsnoc, vpure, Puzz.sl, Puzz.tr, keyB_str, keyB_int, f7, f6, f5, f1, m22, m1, g3, g77, g4, g70, c3', c4']
      exact ⟨c2, by omega⟩
  rw [if_neg (fun q => q.elim (fun q => q.elim c3 c4) c5)] at hst
  rw [decide_eq_false c5] at l3
  have hT : AV.agg [.tr 1 [.i64 x, .i64 y, .i64 (-x), .i64 (-y)], itr (movL E p.n.toNat)] = Twist.tr ⟨cmW x y, movL E p.n.toNat⟩ := rfl
  have e1 : S.1 ++ [E] = S'.1 := by rw [hst]
  have e2 : S.2 ++ [⟨cmW x y, movL E p.n.toNat⟩] = S'.2 := by rw [hst]
  have e3 : S'.2.length = S.2.length + 1 := by rw [hst]; simp
  have e4 : S'.1.length = S.1.length + 1 := by rw [hst]; simp
  clear hst
  rcases ej with ⟨d1, d2, g3, g12, g4, g20⟩ | ⟨g3, g77, g4, g70⟩
  · rw [d2] at l3 e1 e4
    rw [d1] at e2 e3
    simp only [List.cons_append, List.nil_append] at e1 e2
    rw [← e1, ← e2]
    simp -dsimp -implicitDefEqProofs (disch := first | omega | (simp only [lenr]; done) | (simp only [lenr]; omega)) only [↓amPre, amAll, ↓reduceIte, reduceCtorEq, Nat.reduceEqDiff, Nat.reduceBEq, Nat.reduceAdd, Nat.reduceLeDiff, Nat.reduceSub, Nat.reduceMul, Int.reduceToNat, List.size_toArray, tyF, MM, bu0, ipure, kpure, tpure, sspure, kset, tset, ksnoc, tsnoc, Kind.av, Twist.sl, Twist.tr, Invar.av, stsize, stget, sttl, stapp, stext, tsspure, Model.sl, Model.tr, vset, vsnoc, vpure, Puzz.sl, Puzz.tr, keyB_str, keyB_int, f7, f6, f5, f1, m22, m1, g3, g12, g4, g20, hxx, hyy, ex, ey, c3', c4']
    refine callP_frz l1 ?_
    simp -dsimp -implicitDefEqProofs (disch := first | omega | (simp only [lenr]; done) | (simp only [lenr]; omega)) only [↓amPre, amAll, ↓reduceIte, reduceCtorEq, Nat.reduceEqDiff, Nat.reduceBEq, Nat.reduceAdd, Nat.reduceLeDiff, Nat.reduceSub, Nat.reduceMul, Int.reduceToNat, List.size_toArray, tyF, MM, bu0, ipure, kpure, tpure, sspure, kset, tset, ksnoc, tsnoc, Kind.av, Twist.sl, Twist.tr, Invar.av, stsize, stget, sttl, stapp, stext, tsspure, Model.sl, Model.tr, vset, vsnoc, vpure, Puzz.sl, Puzz.tr, keyB_str, keyB_int, f7, f6, f5, f1, m22, m1, itr_fz, g3, g12, g4, g20, c3', c4', islfz, hEf]
    refine callP_of (l3) ?_
    simp -dsimp -implicitDefEqProofs (disch := first | omega | (simp only [lenr]; done) | (simp only [lenr]; omega)) only [↓amPre, amAll, ↓reduceIte, reduceCtorEq, Nat.reduceEqDiff, Nat.reduceBEq, Nat.reduceAdd, Nat.reduceLeDiff, Nat.reduceSub, Nat.reduceMul, Int.reduceToNat, List.size_toArray, tyF, MM, bu0, ipure, kpure, tpure, sspure, kset, tset, ksnoc, tsnoc, Kind.av, Twist.sl, Twist.tr, Invar.av, stsize, stget, sttl, stapp, stext, tsspure, Model.sl, Model.tr, vset, vsnoc, vpure, Puzz.sl, Puzz.tr, keyB_str, keyB_int, f7, f6, f5, f1, m22, m1, g3, g12, g4, g20, c3', c4']
    refine callP_of (l4) ?_
    simp -dsimp -implicitDefEqProofs (disch := first | omega | (simp only [lenr]; done) | (simp only [lenr]; omega)) only [↓amPre, amAll, ↓reduceIte, reduceCtorEq, Nat.reduceEqDiff, Nat.reduceBEq, Nat.reduceAdd, Nat.reduceLeDiff, Nat.reduceSub, Nat.reduceMul, Int.reduceToNat, List.size_toArray, tyF, MM, bu0, ipure, kpure, tpure, sspure, kset, tset, ksnoc, tsnoc, Kind.av, Twist.sl, Twist.tr, Invar.av, stsize, stget, sttl, stapp, stext, tsspure, Model.sl, Model.tr, vset, vsnoc, vpure, Puzz.sl, Puzz.tr, keyB_str, keyB_int, f7, f6, f5, f1, m22, m1, g3, g12, g4, g20, hT, hEf]
    exact ⟨c2, by omega, rfl⟩
  · simp -dsimp -implicitDefEqProofs (disch := first | omega | (simp only [lenr]; done) | (simp only [lenr]; omega)) only [↓amPre, amAll, ↓reduceIte, reduceCtorEq, Nat.reduceEqDiff, Nat.reduceBEq, Nat.reduceAdd, Nat.reduceLeDiff, Nat.reduceSub, Nat.reduceMul, Int.reduceToNat, List.size_toArray, tyF, MM, bu0, ipure, kpure, tpure, sspure, kset, tset, ksnoc, tsnoc, Kind.av, Twist.sl, Twist.tr, Invar.av, stsize, stget, sttl, stapp, stext, tsspure, Model.sl, Model.tr, vset, vsnoc, vpure, Puzz.sl, Puzz.tr, keyB_str, keyB_int, f7, f6, f5, f1, m22, m1, g3, g77, g4, g70, hxx, hyy, ex, ey, c3', c4']
    refine callP_frz l1 ?_
    simp -dsimp -implicitDefEqProofs (disch := first | omega | (simp only [lenr]; done) | (simp only [lenr]; omega)) only [↓amPre, amAll, ↓reduceIte, reduceCtorEq, Nat.reduceEqDiff, Nat.reduceBEq, Nat.reduceAdd, Nat.reduceLeDiff, Nat.reduceSub, Nat.reduceMul, Int.reduceToNat, List.size_toArray, tyF, MM, bu0, ipure, kpure, tpure, sspure, kset, tset, ksnoc, tsnoc, Kind.av, Twist.sl, Twist.tr, Invar.av, stsize, stget, sttl, stapp, stext, tsspure, Model.sl, Model.tr, vset, vsnoc, vpure, Puzz.sl, Puzz.tr, keyB_str, keyB_int, f7, f6, f5, f1, m22, m1, itr_fz, g3, g77, g4, g70, c3', c4', islfz, hEf]
    refine callP_of (l3) ?_
    simp -dsimp -implicitDefEqProofs (disch := first | omega | (simp only [lenr]; done) | (simp only [lenr]; omega)) only [↓amPre, amAll, ↓reduceIte, reduceCtorEq, Nat.reduceEqDiff, Nat.reduceBEq, Nat.reduceAdd, Nat.reduceLeDiff, Nat.reduceSub, Nat.reduceMul, Int.reduceToNat, List.size_toArray, tyF, MM, bu0, ipure, kpure, tpure, sspure, kset, tset, ksnoc, tsnoc, Kind.av, Twist.sl, Twist.tr, Invar.av, stsize, stget, sttl, stapp, stext, tsspure, Model.sl, Model.tr, vset, vsnoc, vpure, Puzz.sl, Puzz.tr, keyB_str, keyB_int, f7, f6, f5, f1, m22, m1, g3, g77, g4, g70, c3', c4']
    refine callP_of (l4) ?_
    simp -dsimp -implicitDefEqProofs (disch := first | omega | (simp only [lenr]; done) | (simp only [lenr]; omega)) only [↓amPre, amAll, ↓reduceIte, reduceCtorEq, Nat.reduceEqDiff, Nat.reduceBEq, Nat.reduceAdd, Nat.reduceLeDiff, Nat.reduceSub, Nat.reduceMul, Int.reduceToNat, List.size_toArray, tyF, MM, bu0, ipure, kpure, tpure, sspure, kset, tset, ksnoc, tsnoc, Kind.av, Twist.sl, Twist.tr, Invar.av, stsize, stget, sttl, stapp, stext, tsspure, Model.sl, Model.tr, vset, vsnoc, vpure, Puzz.sl, Puzz.tr, keyB_str, keyB_int, f7, f6, f5, f1, m22, m1, g3, g77, g4, g70, hT, e1, e2, e3, e4, hEf]
    exact ⟨c2, by omega⟩
end Go.AM
set_option maxRecDepth 8000
namespace Go.AM
open Go.Proofs
def dsC (x n : Int) (k : Nat) (L : List (List Int)) : Prop := x + k < 2147483647 ∧ (L.length : Int) < n
instance (x n : Int) (k : Nat) (L : List (List Int)) : Decidable (dsC x n k L) := by unfold dsC; infer_instance
def dsS (p : Puzz) (x c n : Int) : Nat → List (List Int) × List (List Int)
  | 0 => ([], [])
  | k + 1 => if dsC x n k (dsS p x c n k).1 ∧ scrS p (x + k) c ∉ (dsS p x c n k).2 then ((dsS p x c n k).1 ++ [scrR p (x + k) c], (dsS p x c n k).2 ++ [scrS p (x + k) c]) else dsS p x c n k
def canDs (p : Puzz) (x c n : Int) : Prop := canScr p x c ∧ within n 0 12 = true
instance (p : Puzz) (x c n : Int) : Decidable (canDs p x c n) := by unfold canDs; infer_instance
def dsR (p : Puzz) (x c n : Int) : List (List Int) := if canDs p x c n then (dsS p x c n 100).1 else []
end Go.AM
set_option maxRecDepth 8000
namespace Go.AM
open Go.Proofs
theorem lawCommutator (p : Puzz) (hp : wfP p) : SpecAt Try.prog 13 [p.sl] (.bl true) := by
  refine spec_of_awp_any (M := MM) (np := 1) (X := [10]) (fz := true) mixed Try.func13 rfl rfl (by decide) rfl (Nat.le_refl _) (by decide +kernel) (.inr ⟨rfl, rfl⟩) trivial ?_
  simp -dsimp -implicitDefEqProofs (disch := first | omega | (simp only [lenr]; done) | (simp only [lenr]; omega)) only [↓amPre, amAll, ↓reduceIte, reduceCtorEq, Nat.reduceEqDiff, Nat.reduceBEq, Nat.reduceAdd, Nat.reduceLeDiff, Nat.reduceSub, Nat.reduceMul, Int.reduceToNat, List.size_toArray, tyF, MM, bu0, ipure, kpure, tpure, sspure, kset, tset, ksnoc, tsnoc, Kind.av, Twist.sl, Twist.tr, Invar.av, stsize, stget, sttl, stapp, stext, tsspure, Model.sl, Model.tr, vset, vsnoc, vpure, Puzz.sl, Puzz.tr, keyB_str, keyB_int]
  refine callP_of (szPuzzle p 1048576 (by omega) (by omega) hp) ?_
  by_cases c1 : (1048576 : Int) - p.size < 0
  · simp -dsimp -implicitDefEqProofs (disch := first | omega | (simp only [lenr]; done) | (simp only [lenr]; omega)) only [↓amPre, amAll, ↓reduceIte, reduceCtorEq, Nat.reduceEqDiff, Nat.reduceBEq, Nat.reduceAdd, Nat.reduceLeDiff, Nat.reduceSub, Nat.reduceMul, Int.reduceToNat, List.size_toArray, tyF, MM, bu0, ipure, kpure, tpure, sspure, kset, tset, ksnoc, tsnoc, Kind.av, Twist.sl, Twist.tr, Invar.av, stsize, stget, sttl, stapp, stext, tsspure, Model.sl, Model.tr, vset, vsnoc, vpure, Puzz.sl, Puzz.tr, keyB_str, keyB_int, szR_neg c1]
  have c1' : 0 ≤ (1048576 : Int) - p.size := by omega
  have h := szP_small hp.1 (by omega) c1'
  have hcn := cnts_sizeI p.mv
  have hps : p.size = p.nm.length + sizeI p.mv := by unfold Puzz.size; omega
  obtain ⟨hr1, hr2⟩ := cmR_ok p
  have q1 := sCommutator p h
  have q2 := iCommutator p h
  generalize cmR p = r at hr1 hr2 q1 q2
  have hsm : ∀ t ∈ r, t.to.length ≤ 1099511627776 ∧ t.by'.length ≤ 1099511627776 := fun t ht => by have := hr2 t ht; omega
  have hcb := cnts_bound r 24 (fun t ht => by have := hr2 t ht; rw [tcnt]; omega)
  simp -dsimp -implicitDefEqProofs (disch := first | omega | (simp only [lenr]; done) | (simp only [lenr]; omega)) only [↓amPre, amAll, ↓reduceIte, reduceCtorEq, Nat.reduceEqDiff, Nat.reduceBEq, Nat.reduceAdd, Nat.reduceLeDiff, Nat.reduceSub, Nat.reduceMul, Int.reduceToNat, List.size_toArray, tyF, MM, bu0, ipure, kpure, tpure, sspure, kset, tset, ksnoc, tsnoc, Kind.av, Twist.sl, Twist.tr, Invar.av, stsize, stget, sttl, stapp, stext, tsspure, Model.sl, Model.tr, vset, vsnoc, vpure, Puzz.sl, Puzz.tr, keyB_str, keyB_int, szR_pos c1']
  refine callP_of (toPuzzle p h) ?_
  simp -dsimp -implicitDefEqProofs (disch := first | omega | (simp only [lenr]; done) | (simp only [lenr]; omega)) only [↓amPre, amAll, ↓reduceIte, reduceCtorEq, Nat.reduceEqDiff, Nat.reduceBEq, Nat.reduceAdd, Nat.reduceLeDiff, Nat.reduceSub, Nat.reduceMul, Int.reduceToNat, List.size_toArray, tyF, MM, bu0, ipure, kpure, tpure, sspure, kset, tset, ksnoc, tsnoc, Kind.av, Twist.sl, Twist.tr, Invar.av, stsize, stget, sttl, stapp, stext, tsspure, Model.sl, Model.tr, vset, vsnoc, vpure, Puzz.sl, Puzz.tr, keyB_str, keyB_int, ssfz, tfz]
  refine callP_of (q1) ?_
  simp -dsimp -implicitDefEqProofs (disch := first | omega | (simp only [lenr]; done) | (simp only [lenr]; omega)) only [↓amPre, amAll, ↓reduceIte, reduceCtorEq, Nat.reduceEqDiff, Nat.reduceBEq, Nat.reduceAdd, Nat.reduceLeDiff, Nat.reduceSub, Nat.reduceMul, Int.reduceToNat, List.size_toArray, tyF, MM, bu0, ipure, kpure, tpure, sspure, kset, tset, ksnoc, tsnoc, Kind.av, Twist.sl, Twist.tr, Invar.av, stsize, stget, sttl, stapp, stext, tsspure, Model.sl, Model.tr, vset, vsnoc, vpure, Puzz.sl, Puzz.tr, keyB_str, keyB_int, ssfz, tfz]
  refine callP_of (toPuzzle p h) ?_
  simp -dsimp -implicitDefEqProofs (disch := first | omega | (simp only [lenr]; done) | (simp only [lenr]; omega)) only [↓amPre, amAll, ↓reduceIte, reduceCtorEq, Nat.reduceEqDiff, Nat.reduceBEq, Nat.reduceAdd, Nat.reduceLeDiff, Nat.reduceSub, Nat.reduceMul, Int.reduceToNat, List.size_toArray, tyF, MM, bu0, ipure, kpure, tpure, sspure, kset, tset, ksnoc, tsnoc, Kind.av, Twist.sl, Twist.tr, Invar.av, stsize, stget, sttl, stapp, stext, tsspure, Model.sl, Model.tr, vset, vsnoc, vpure, Puzz.sl, Puzz.tr, keyB_str, keyB_int, ssfz, tfz]
  refine callP_of (q2) ?_
  simp -dsimp -implicitDefEqProofs (disch := first | omega | (simp only [lenr]; done) | (simp only [lenr]; omega)) only [↓amPre, amAll, ↓reduceIte, reduceCtorEq, Nat.reduceEqDiff, Nat.reduceBEq, Nat.reduceAdd, Nat.reduceLeDiff, Nat.reduceSub, Nat.reduceMul, Int.reduceToNat, List.size_toArray, tyF, MM, bu0, ipure, kpure, tpure, sspure, kset, tset, ksnoc, tsnoc, Kind.av, Twist.sl, Twist.tr, Invar.av, stsize, stget, sttl, stapp, stext, tsspure, Model.sl, Model.tr, vset, vsnoc, vpure, Puzz.sl, Puzz.tr, keyB_str, keyB_int, ssfz, tfz]
  refine callP_of (eqMacroS r r (by omega) hsm) ?_
  simp -dsimp -implicitDefEqProofs (disch := first | omega | (simp only [lenr]; done) | (simp only [lenr]; omega)) only [↓amPre, amAll, ↓reduceIte, reduceCtorEq, Nat.reduceEqDiff, Nat.reduceBEq, Nat.reduceAdd, Nat.reduceLeDiff, Nat.reduceSub, Nat.reduceMul, Int.reduceToNat, List.size_toArray, tyF, MM, bu0, ipure, kpure, tpure, sspure, kset, tset, ksnoc, tsnoc, Kind.av, Twist.sl, Twist.tr, Invar.av, stsize, stget, sttl, stapp, stext, tsspure, Model.sl, Model.tr, vset, vsnoc, vpure, Puzz.sl, Puzz.tr, keyB_str, keyB_int, ssfz, tfz]
  refine split_go 3 (by decide +kernel) ?_
  simp -dsimp -implicitDefEqProofs (disch := first | omega | (simp only [lenr]; done) | (simp only [lenr]; omega)) only [↓amPre, amAll, ↓reduceIte, reduceCtorEq, Nat.reduceEqDiff, Nat.reduceBEq, Nat.reduceAdd, Nat.reduceLeDiff, Nat.reduceSub, Nat.reduceMul, Int.reduceToNat, List.size_toArray, tyF, MM, bu0, ipure, kpure, tpure, sspure, kset, tset, ksnoc, tsnoc, Kind.av, Twist.sl, Twist.tr, Invar.av, stsize, stget, sttl, stapp, stext, tsspure, Model.sl, Model.tr, vset, vsnoc, vpure, Puzz.sl, Puzz.tr, keyB_str, keyB_int, ssfz, tfz]
  refine callP_of (toPuzzle p h) ?_
  simp -dsimp -implicitDefEqProofs (disch := first | omega | (simp only [lenr]; done) | (simp only [lenr]; omega)) only [↓amPre, amAll, ↓reduceIte, reduceCtorEq, Nat.reduceEqDiff, Nat.reduceBEq, Nat.reduceAdd, Nat.reduceLeDiff, Nat.reduceSub, Nat.reduceMul, Int.reduceToNat, List.size_toArray, tyF, MM, bu0, ipure, kpure, tpure, sspure, kset, tset, ksnoc, tsnoc, Kind.av, Twist.sl, Twist.tr, Invar.av, stsize, stget, sttl, stapp, stext, tsspure, Model.sl, Model.tr, vset, vsnoc, vpure, Puzz.sl, Puzz.tr, keyB_str, keyB_int, ssfz, tfz]
  refine callP_of (eqPuzzle p p h) ?_
  simp -dsimp -implicitDefEqProofs (disch := first | omega | (simp only [lenr]; done) | (simp only [lenr]; omega)) only [↓amPre, amAll, ↓reduceIte, reduceCtorEq, Nat.reduceEqDiff, Nat.reduceBEq, Nat.reduceAdd, Nat.reduceLeDiff, Nat.reduceSub, Nat.reduceMul, Int.reduceToNat, List.size_toArray, tyF, MM, bu0, ipure, kpure, tpure, sspure, kset, tset, ksnoc, tsnoc, Kind.av, Twist.sl, Twist.tr, Invar.av, stsize, stget, sttl, stapp, stext, tsspure, Model.sl, Model.tr, vset, vsnoc, vpure, Puzz.sl, Puzz.tr, keyB_str, keyB_int, ssfz, tfz]
  refine callX_of (markPuzzle p 1 (by omega) (by omega) h) ?_
  simp -dsimp -implicitDefEqProofs (disch := first | omega | (simp only [lenr]; done) | (simp only [lenr]; omega)) only [↓amPre, amAll, ↓reduceIte, reduceCtorEq, Nat.reduceEqDiff, Nat.reduceBEq, Nat.reduceAdd, Nat.reduceLeDiff, Nat.reduceSub, Nat.reduceMul, Int.reduceToNat, List.size_toArray, tyF, MM, bu0, ipure, kpure, tpure, sspure, kset, tset, ksnoc, tsnoc, Kind.av, Twist.sl, Twist.tr, Invar.av, stsize, stget, sttl, stapp, stext, tsspure, Model.sl, Model.tr, vset, vsnoc, vpure, Puzz.sl, Puzz.tr, keyB_str, keyB_int, ssfz, tfz, mks_len, runI_len]
  refine callP_of (eqMacroS r r (by omega) hsm) ?_
  simp -dsimp -implicitDefEqProofs (disch := first | omega | (simp only [lenr]; done) | (simp only [lenr]; omega)) only [↓amPre, amAll, ↓reduceIte, reduceCtorEq, Nat.reduceEqDiff, Nat.reduceBEq, Nat.reduceAdd, Nat.reduceLeDiff, Nat.reduceSub, Nat.reduceMul, Int.reduceToNat, List.size_toArray, tyF, MM, bu0, ipure, kpure, tpure, sspure, kset, tset, ksnoc, tsnoc, Kind.av, Twist.sl, Twist.tr, Invar.av, stsize, stget, sttl, stapp, stext, tsspure, Model.sl, Model.tr, vset, vsnoc, vpure, Puzz.sl, Puzz.tr, keyB_str, keyB_int, ssfz, tfz, mks_len, runI_len]
  refine callX_of (markMacroS r 1 (by omega) (by omega) (by omega)) ?_
  simp -dsimp -implicitDefEqProofs (disch := first | omega | (simp only [lenr]; done) | (simp only [lenr]; omega)) only [↓amPre, amAll, ↓reduceIte, reduceCtorEq, Nat.reduceEqDiff, Nat.reduceBEq, Nat.reduceAdd, Nat.reduceLeDiff, Nat.reduceSub, Nat.reduceMul, Int.reduceToNat, List.size_toArray, tyF, MM, bu0, ipure, kpure, tpure, sspure, kset, tset, ksnoc, tsnoc, Kind.av, Twist.sl, Twist.tr, Invar.av, stsize, stget, sttl, stapp, stext, tsspure, Model.sl, Model.tr, vset, vsnoc, vpure, Puzz.sl, Puzz.tr, keyB_str, keyB_int, ssfz, tfz, mks_len, runI_len]
  refine callP_of (heldMacroS r 1 (by omega) (by omega) (by omega)) ?_
  simp -dsimp -implicitDefEqProofs (disch := first | omega | (simp only [lenr]; done) | (simp only [lenr]; omega)) only [↓amPre, amAll, ↓reduceIte, reduceCtorEq, Nat.reduceEqDiff, Nat.reduceBEq, Nat.reduceAdd, Nat.reduceLeDiff, Nat.reduceSub, Nat.reduceMul, Int.reduceToNat, List.size_toArray, tyF, MM, bu0, ipure, kpure, tpure, sspure, kset, tset, ksnoc, tsnoc, Kind.av, Twist.sl, Twist.tr, Invar.av, stsize, stget, sttl, stapp, stext, tsspure, Model.sl, Model.tr, vset, vsnoc, vpure, Puzz.sl, Puzz.tr, keyB_str, keyB_int, ssfz, tfz, mks_len, runI_len]
  refine callP_of (toPuzzle p h) ?_
  simp -dsimp -implicitDefEqProofs (disch := first | omega | (simp only [lenr]; done) | (simp only [lenr]; omega)) only [↓amPre, amAll, ↓reduceIte, reduceCtorEq, Nat.reduceEqDiff, Nat.reduceBEq, Nat.reduceAdd, Nat.reduceLeDiff, Nat.reduceSub, Nat.reduceMul, Int.reduceToNat, List.size_toArray, tyF, MM, bu0, ipure, kpure, tpure, sspure, kset, tset, ksnoc, tsnoc, Kind.av, Twist.sl, Twist.tr, Invar.av, stsize, stget, sttl, stapp, stext, tsspure, Model.sl, Model.tr, vset, vsnoc, vpure, Puzz.sl, Puzz.tr, keyB_str, keyB_int, ssfz, tfz, mks_len, runI_len]
  refine callP_of (q2) ?_
  simp -dsimp -implicitDefEqProofs (disch := first | omega | (simp only [lenr]; done) | (simp only [lenr]; omega)) only [↓amPre, amAll, ↓reduceIte, reduceCtorEq, Nat.reduceEqDiff, Nat.reduceBEq, Nat.reduceAdd, Nat.reduceLeDiff, Nat.reduceSub, Nat.reduceMul, Int.reduceToNat, List.size_toArray, tyF, MM, bu0, ipure, kpure, tpure, sspure, kset, tset, ksnoc, tsnoc, Kind.av, Twist.sl, Twist.tr, Invar.av, stsize, stget, sttl, stapp, stext, tsspure, Model.sl, Model.tr, vset, vsnoc, vpure, Puzz.sl, Puzz.tr, keyB_str, keyB_int, ssfz, tfz, mks_len, runI_len]
  refine callP_of (eqMacroS r r (by omega) hsm) ?_
  simp -dsimp -implicitDefEqProofs (disch := first | omega | (simp only [lenr]; done) | (simp only [lenr]; omega)) only [↓amPre, amAll, ↓reduceIte, reduceCtorEq, Nat.reduceEqDiff, Nat.reduceBEq, Nat.reduceAdd, Nat.reduceLeDiff, Nat.reduceSub, Nat.reduceMul, Int.reduceToNat, List.size_toArray, tyF, MM, bu0, ipure, kpure, tpure, sspure, kset, tset, ksnoc, tsnoc, Kind.av, Twist.sl, Twist.tr, Invar.av, stsize, stget, sttl, stapp, stext, tsspure, Model.sl, Model.tr, vset, vsnoc, vpure, Puzz.sl, Puzz.tr, keyB_str, keyB_int, ssfz, tfz, mks_len, runI_len]
  refine callP_of (heldMacroS r 1 (by omega) (by omega) (by omega)) ?_
  simp -dsimp -implicitDefEqProofs (disch := first | omega | (simp only [lenr]; done) | (simp only [lenr]; omega)) only [↓amPre, amAll, ↓reduceIte, reduceCtorEq, Nat.reduceEqDiff, Nat.reduceBEq, Nat.reduceAdd, Nat.reduceLeDiff, Nat.reduceSub, Nat.reduceMul, Int.reduceToNat, List.size_toArray, tyF, MM, bu0, ipure, kpure, tpure, sspure, kset, tset, ksnoc, tsnoc, Kind.av, Twist.sl, Twist.tr, Invar.av, stsize, stget, sttl, stapp, stext, tsspure, Model.sl, Model.tr, vset, vsnoc, vpure, Puzz.sl, Puzz.tr, keyB_str, keyB_int, ssfz, tfz, mks_len, runI_len]
end Go.AM

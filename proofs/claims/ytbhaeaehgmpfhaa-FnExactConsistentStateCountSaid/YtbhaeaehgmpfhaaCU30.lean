/-
  CONTRACTS of functions of the program, and what they compute, by content.
-/
import Derived.Test.YtbhaeaehgmpfhaaCU22
import Derived.Test.YtbhaeaehgmpfhaaCU5
import Derived.Test.YtbhaeaehgmpfhaaCU23
set_option linter.unusedVariables false
set_option linter.unusedSimpArgs false
set_option maxRecDepth 8000
namespace Go.AM
open Go.Proofs
def dvS (ks : List Kind) (n : Int) (i : Invar) : Int := if i.k = 1 then n.tdiv (ks.getD i.s.toNat default).o else n
def dvN (ks : List Kind) (l : List Invar) (n : Int) : Int := l.foldl (dvS ks) n
theorem dvN_take (ks : List Kind) (l : List Invar) (n : Int) (k : Nat) (h : k < l.length) : dvN ks (l.take (k + 1)) n = dvS ks (dvN ks (l.take k) n) (l.getD k default) := by
  unfold dvN; rw [take_succ_eq l k default h, List.foldl_append]; rfl
theorem tdiv_le (a b : Int) (h : 0 ≤ a) (hb : 1 ≤ b) : 0 ≤ a.tdiv b ∧ a.tdiv b ≤ a := by
  rw [Int.tdiv_eq_ediv_of_nonneg h]
  exact ⟨Int.ediv_nonneg h (by omega), Int.ediv_le_self _ h⟩
theorem dvN_le (ks : List Kind) (hk : kindsOk ks) : ∀ (l : List Invar) (n : Int), 0 ≤ n → (∀ i ∈ l, i.k = 1 → ∃ m : Nat, m < ks.length ∧ i.s = m) → 0 ≤ dvN ks l n ∧ dvN ks l n ≤ n
  | [], n, h, _ => by simp [dvN, h]
  | i :: r, n, h, hl => by
    have hs : 0 ≤ dvS ks n i ∧ dvS ks n i ≤ n := by
      unfold dvS; split
      · rename_i c
        obtain ⟨m, hm, e⟩ := hl i (by simp) c
        rw [e, Int.toNat_natCast]
        exact tdiv_le _ _ h (hk.2.1 _ (mem_getD ks m default hm)).2.1
      · omega
    have ih := dvN_le ks hk r (dvS ks n i) hs.1 fun i hi => hl i (by simp [hi])
    have e : dvN ks (i :: r) n = dvN ks r (dvS ks n i) := rfl
    rw [e]; omega
theorem cons_kind {m : Model} : ∀ i ∈ consL m, i.k = 1 → ∃ n : Nat, n < m.ks.length ∧ i.s = n := by
  intro i h c
  have hi := (List.mem_filter.1 h).1
  rw [allI, List.mem_append] at hi
  rcases hi with hi | hi
  · obtain ⟨n, hn, rfl⟩ := List.mem_map.1 hi
    exact ⟨n, List.mem_range.1 hn, rfl⟩
  · obtain ⟨n, hn, rfl⟩ := List.mem_map.1 hi
    cases c
def goodN (m : Model) : Nat → Nat
  | 0 => 1
  | j + 1 => goodN m j + if consM m ⟨2, ((j + 1 : Nat) : Int)⟩ then 1 else 0
def trvN (ks : List Kind) : Nat → Nat
  | 0 => 1
  | j + 1 => trvN ks j + if trivK ks ((j + 1 : Nat) : Int) ks.length = true then 1 else 0
theorem goodN_le (m : Model) : ∀ j, 1 ≤ goodN m j ∧ goodN m j ≤ j + 1
  | 0 => by simp [goodN]
  | j + 1 => by have := goodN_le m j; rw [goodN]; split <;> omega
theorem trvN_le (ks : List Kind) : ∀ j, 1 ≤ trvN ks j ∧ trvN ks j ≤ j + 1
  | 0 => by simp [trvN]
  | j + 1 => by have := trvN_le ks j; rw [trvN]; split <;> omega
theorem sgn_one : sgnI [0] = 1 := by decide +kernel
theorem odd_triv (ks : List Kind) (s : List Twist) (ps : psOk ks s) (set : Int) : ∀ k, k ≤ ks.length → trivK ks set k = true → oddS s set k = 0
  | 0, _, _ => rfl
  | k + 1, hk, h => by
    rw [trivK, Bool.and_eq_true] at h
    have ih := odd_triv ks s ps set k (by omega) h.1
    rw [oddS, ih, if_neg]
    rintro ⟨q1, q2⟩
    have h2 := h.2
    rw [q1] at h2
    simp only [Bool.true_and, Bool.not_eq_true', decide_eq_false_iff_not] at h2
    obtain ⟨t1, t2, t3, t4⟩ := ps.2.2 k (by omega)
    have hc := (ps.1.2.1 _ (mem_getD ks k default (by omega))).1.1
    obtain ⟨x, hx⟩ := List.length_eq_one_iff.1 (show (s.getD k default).to.length = 1 by omega)
    have hx0 := t3.2.1 x (by rw [hx]; simp)
    rw [hx] at hx0 q2
    have : x = 0 := by simp only [List.length_singleton] at hx0; omega
    rw [this, sgn_one] at q2
    omega
theorem triv_cons (m : Model) (c : modelOk m) (j : Nat) (hj : j + 1 ≤ 2 ^ m.ks.length - 1) (h : trivK m.ks ((j + 1 : Nat) : Int) m.ks.length = true) : consM m ⟨2, ((j + 1 : Nat) : Int)⟩ := by
  have hp := pow_small c.1.1.2
  refine ⟨c, fun s hs => ?_⟩
  have ps := c.2.2.2 s hs
  have e1 : invV m.ks s ⟨2, ((j + 1 : Nat) : Int)⟩ = parR m.ks s ((j + 1 : Nat) : Int) := rfl
  rw [e1, parR, if_pos ⟨ps, by omega, by omega⟩, parS, ps.2.1, odd_triv m.ks s ps _ m.ks.length (Nat.le_refl _) h]
  rfl
theorem trv_good (m : Model) (c : modelOk m) : ∀ j, j ≤ 2 ^ m.ks.length - 1 → trvN m.ks j ≤ goodN m j
  | 0, _ => by simp [trvN, goodN]
  | j + 1, hj => by
    have ih := trv_good m c j (by omega)
    rw [trvN, goodN]
    by_cases h : trivK m.ks ((j + 1 : Nat) : Int) m.ks.length = true
    · rw [if_pos h, if_pos (triv_cons m c j hj h)]; omega
    · rw [if_neg h]; omega
def cscR (m : Model) : Int := if modelOk m then (dvN m.ks (consL m) (stC m.ks)).tdiv ((goodN m (2 ^ m.ks.length - 1) : Int).tdiv (trvN m.ks (2 ^ m.ks.length - 1))) else 0
theorem sConsistent (m : Model) (h : smallM m) : SpecAt Try.prog 48 [m.sl] (.i64 (cscR m)) := by
  refine spec_of_awp (M := MM) (np := 1) (fz := true) mixed Try.func48 rfl rfl (by decide) rfl (Nat.le_refl _) (by decide +kernel) (.inr ⟨rfl, rfl⟩) trivial ?_
  simp -dsimp -implicitDefEqProofs (disch := first | omega | (simp only [lenr]; done) | (simp only [lenr]; omega)) only [↓amPre, amPost0, amPost1, amPost2, amPost3, ↓reduceIte, reduceCtorEq, Nat.reduceEqDiff, Nat.reduceBEq, Nat.reduceAdd, Nat.reduceLeDiff, Nat.reduceSub, Nat.reduceMul, Int.reduceToNat, List.size_toArray, tyF, MM, bu0, ipure, kpure, tpure, sspure, kset, tset, ksnoc, tsnoc, Kind.av, Twist.sl, Twist.tr, Invar.av, stsize, stget, sttl, stapp, stext, tsspure, Model.sl, Model.tr, vset, vsnoc, vpure]
  refine callP_of (sIsValidPieceModel m h) ?_
  by_cases c : modelOk m
  case neg =>
    have hR : cscR m = 0 := if_neg c
    simp -dsimp -implicitDefEqProofs (disch := first | omega | (simp only [lenr]; done) | (simp only [lenr]; omega)) only [↓amPre, amPost0, amPost1, amPost2, amPost3, ↓reduceIte, reduceCtorEq, Nat.reduceEqDiff, Nat.reduceBEq, Nat.reduceAdd, Nat.reduceLeDiff, Nat.reduceSub, Nat.reduceMul, Int.reduceToNat, List.size_toArray, tyF, MM, bu0, ipure, kpure, tpure, sspure, kset, tset, ksnoc, tsnoc, Kind.av, Twist.sl, Twist.tr, Invar.av, stsize, stget, sttl, stapp, stext, tsspure, Model.sl, Model.tr, vset, vsnoc, vpure, c, hR]
  have hR : cscR m = (dvN m.ks (consL m) (stC m.ks)).tdiv ((goodN m (2 ^ m.ks.length - 1) : Int).tdiv (trvN m.ks (2 ^ m.ks.length - 1))) := if_pos c
  have hle := consL_le m c
  have hck := cons_kind (m := m)
  have hsb := st_bound m.ks c.1
  have hl3 := c.1.1.2
  have hpw := pow_small hl3
  have htg := trv_good m c _ (Nat.le_refl _)
  simp -dsimp -implicitDefEqProofs (disch := first | omega | (simp only [lenr]; done) | (simp only [lenr]; omega)) only [↓amPre, amPost0, amPost1, amPost2, amPost3, ↓reduceIte, reduceCtorEq, Nat.reduceEqDiff, Nat.reduceBEq, Nat.reduceAdd, Nat.reduceLeDiff, Nat.reduceSub, Nat.reduceMul, Int.reduceToNat, List.size_toArray, tyF, MM, bu0, ipure, kpure, tpure, sspure, kset, tset, ksnoc, tsnoc, Kind.av, Twist.sl, Twist.tr, Invar.av, stsize, stget, sttl, stapp, stext, tsspure, Model.sl, Model.tr, vset, vsnoc, vpure, c]
  refine callP_of (sStates m.ks c.1) ?_
  simp -dsimp -implicitDefEqProofs (disch := first | omega | (simp only [lenr]; done) | (simp only [lenr]; omega)) only [↓amPre, amPost0, amPost1, amPost2, amPost3, ↓reduceIte, reduceCtorEq, Nat.reduceEqDiff, Nat.reduceBEq, Nat.reduceAdd, Nat.reduceLeDiff, Nat.reduceSub, Nat.reduceMul, Int.reduceToNat, List.size_toArray, tyF, MM, bu0, ipure, kpure, tpure, sspure, kset, tset, ksnoc, tsnoc, Kind.av, Twist.sl, Twist.tr, Invar.av, stsize, stget, sttl, stapp, stext, tsspure, Model.sl, Model.tr, vset, vsnoc, vpure]
  refine callP_of (sl22Conserved m h c) ?_
  generalize hL : consL m = L at hle hR hck
  simp -dsimp -implicitDefEqProofs (disch := first | omega | (simp only [lenr]; done) | (simp only [lenr]; omega)) only [↓amPre, amPost0, amPost1, amPost2, amPost3, ↓reduceIte, reduceCtorEq, Nat.reduceEqDiff, Nat.reduceBEq, Nat.reduceAdd, Nat.reduceLeDiff, Nat.reduceSub, Nat.reduceMul, Int.reduceToNat, List.size_toArray, tyF, MM, bu0, ipure, kpure, tpure, sspure, kset, tset, ksnoc, tsnoc, Kind.av, Twist.sl, Twist.tr, Invar.av, stsize, stget, sttl, stapp, stext, tsspure, Model.sl, Model.tr, vset, vsnoc, vpure]
  refine awp_loop (fun k st => k ≤ L.length ∧ st.fr 5 = .i64 k ∧ st.fr 4 = .ref 16 [] 2 0 L.length ∧ st.fr 3 = .i64 (dvN m.ks (L.take k) (stC m.ks)) ∧ st.fr 1 = .loc 1 [] 0 0 ∧ st.mem 16 = some (vtr L) ∧ st.mem 1 = some (.pt 3 (.agg [ksl m.ks, .st m.nm, tssl m.mv]))) (L.length) ?_ ?_
  · simp -dsimp -implicitDefEqProofs (disch := first | omega | (simp only [lenr]; done) | (simp only [lenr]; omega)) only [↓amPre, amPost0, amPost1, amPost2, amPost3, ↓reduceIte, reduceCtorEq, Nat.reduceEqDiff, Nat.reduceBEq, Nat.reduceAdd, Nat.reduceLeDiff, Nat.reduceSub, Nat.reduceMul, Int.reduceToNat, List.size_toArray, tyF, MM, bu0, ipure, kpure, tpure, sspure, kset, tset, ksnoc, tsnoc, Kind.av, Twist.sl, Twist.tr, Invar.av, stsize, stget, sttl, stapp, stext, tsspure, Model.sl, Model.tr, vset, vsnoc, vpure]
    simp [dvN]
  rintro k st _ ⟨hk, f5, f4, f3, f1, m16, m1⟩
  have hdl := dvN_le m.ks c.1 (L.take k) (stC m.ks) (by omega) fun i hi => hck i (List.mem_of_mem_take hi)
  by_cases hlt : k < L.length
  · have hmem := mem_getD L k default hlt
    have hdt := dvN_take m.ks L (stC m.ks) k hlt
    by_cases ck : (L.getD k default).k = 1
    · obtain ⟨n, hn, en⟩ := hck _ hmem ck
      have ho := (c.1.2.1 _ (mem_getD m.ks n default hn)).2
      have e2 : dvS m.ks (dvN m.ks (L.take k) (stC m.ks)) (L.getD k default) = (dvN m.ks (L.take k) (stC m.ks)).tdiv (m.ks.getD n default).o := by rw [dvS, if_pos ck, en, Int.toNat_natCast]
      rw [e2] at hdt
      have hw := tdiv_le (dvN m.ks (L.take k) (stC m.ks)) (m.ks.getD n default).o hdl.1 ho.1
      have hw2 : IntKind.i64.wrap ((dvN m.ks (L.take k) (stC m.ks)).tdiv (m.ks.getD n default).o) = (dvN m.ks (L.take k) (stC m.ks)).tdiv (m.ks.getD n default).o := wrap64_id (by omega)
      have ho0 : (m.ks.getD n default).o ≠ 0 := by omega
      simp -dsimp -implicitDefEqProofs (disch := first | omega | (simp only [lenr]; done) | (simp only [lenr]; omega)) only [↓amPre, amPost0, amPost1, amPost2, amPost3, ↓reduceIte, reduceCtorEq, Nat.reduceEqDiff, Nat.reduceBEq, Nat.reduceAdd, Nat.reduceLeDiff, Nat.reduceSub, Nat.reduceMul, Int.reduceToNat, List.size_toArray, tyF, MM, bu0, ipure, kpure, tpure, sspure, kset, tset, ksnoc, tsnoc, Kind.av, Twist.sl, Twist.tr, Invar.av, stsize, stget, sttl, stapp, stext, tsspure, Model.sl, Model.tr, vset, vsnoc, vpure, f5, f4, f3, f1, m16, m1, eq_true ck, en, hw2, ho0]
      repeat' (first | omega | rfl | exact i64c (by omega) | exact vic (by omega) | apply And.intro)
    · have e2 : dvS m.ks (dvN m.ks (L.take k) (stC m.ks)) (L.getD k default) = dvN m.ks (L.take k) (stC m.ks) := if_neg ck
      rw [e2] at hdt
      simp -dsimp -implicitDefEqProofs (disch := first | omega | (simp only [lenr]; done) | (simp only [lenr]; omega)) only [↓amPre, amPost0, amPost1, amPost2, amPost3, ↓reduceIte, reduceCtorEq, Nat.reduceEqDiff, Nat.reduceBEq, Nat.reduceAdd, Nat.reduceLeDiff, Nat.reduceSub, Nat.reduceMul, Int.reduceToNat, List.size_toArray, tyF, MM, bu0, ipure, kpure, tpure, sspure, kset, tset, ksnoc, tsnoc, Kind.av, Twist.sl, Twist.tr, Invar.av, stsize, stget, sttl, stapp, stext, tsspure, Model.sl, Model.tr, vset, vsnoc, vpure, f5, f4, f3, f1, m16, m1, eq_false ck]
      repeat' (first | omega | rfl | exact i64c (by omega) | exact vic (by omega) | apply And.intro)
  have hke : k = L.length := by omega
  subst hke
  rw [List.take_length] at hdl f3
  generalize hX : dvN m.ks L (stC m.ks) = X at hdl f3 hR
  simp -dsimp -implicitDefEqProofs (disch := first | omega | (simp only [lenr]; done) | (simp only [lenr]; omega)) only [↓amPre, amPost0, amPost1, amPost2, amPost3, ↓reduceIte, reduceCtorEq, Nat.reduceEqDiff, Nat.reduceBEq, Nat.reduceAdd, Nat.reduceLeDiff, Nat.reduceSub, Nat.reduceMul, Int.reduceToNat, List.size_toArray, tyF, MM, bu0, ipure, kpure, tpure, sspure, kset, tset, ksnoc, tsnoc, Kind.av, Twist.sl, Twist.tr, Invar.av, stsize, stget, sttl, stapp, stext, tsspure, Model.sl, Model.tr, vset, vsnoc, vpure, f5, f4, f3, f1, m16, m1]
  refine awp_loop (fun j st => j ≤ (2 ^ m.ks.length - 1) ∧ st.fr 8 = .i64 (j + 1 : Nat) ∧ st.fr 3 = .i64 X ∧ st.fr 6 = .i64 (goodN m j) ∧ st.fr 7 = .i64 (trvN m.ks j) ∧ st.fr 1 = .loc 1 [] 0 0 ∧ st.mem 1 = some (.pt 3 (.agg [ksl m.ks, .st m.nm, tssl m.mv]))) ((2 ^ m.ks.length - 1)) ?_ ?_
  · simp -dsimp -implicitDefEqProofs (disch := first | omega | (simp only [lenr]; done) | (simp only [lenr]; omega)) only [↓amPre, amPost0, amPost1, amPost2, amPost3, ↓reduceIte, reduceCtorEq, Nat.reduceEqDiff, Nat.reduceBEq, Nat.reduceAdd, Nat.reduceLeDiff, Nat.reduceSub, Nat.reduceMul, Int.reduceToNat, List.size_toArray, tyF, MM, bu0, ipure, kpure, tpure, sspure, kset, tset, ksnoc, tsnoc, Kind.av, Twist.sl, Twist.tr, Invar.av, stsize, stget, sttl, stapp, stext, tsspure, Model.sl, Model.tr, vset, vsnoc, vpure, f5, f4, f3, f1, m16, m1]
    simp [goodN, trvN]
  rintro j st _ ⟨hj, f8, f3, f6, f7, f1, m1⟩
  have hg := goodN_le m j
  have ht := trvN_le m.ks j
  have hg1 : goodN m (j + 1) = _ := rfl
  conv at hg1 => rhs; rw [goodN]
  have ht1 : trvN m.ks (j + 1) = _ := rfl
  conv at ht1 => rhs; rw [trvN]
  by_cases hlt : j < 2 ^ m.ks.length - 1
  · have h2 : (((j + 1 : Nat) : Int) < ((2 ^ m.ks.length : Nat) : Int)) := by omega
    simp -dsimp -implicitDefEqProofs (disch := first | omega | (simp only [lenr]; done) | (simp only [lenr]; omega)) only [↓amPre, amPost0, amPost1, amPost2, amPost3, ↓reduceIte, reduceCtorEq, Nat.reduceEqDiff, Nat.reduceBEq, Nat.reduceAdd, Nat.reduceLeDiff, Nat.reduceSub, Nat.reduceMul, Int.reduceToNat, List.size_toArray, tyF, MM, bu0, ipure, kpure, tpure, sspure, kset, tset, ksnoc, tsnoc, Kind.av, Twist.sl, Twist.tr, Invar.av, stsize, stget, sttl, stapp, stext, tsspure, Model.sl, Model.tr, vset, vsnoc, vpure, f8, f3, f6, f7, f1, m1]
    refine callP_of (sl22Sets m.ks c.1) ?_
    simp -dsimp -implicitDefEqProofs (disch := first | omega | (simp only [lenr]; done) | (simp only [lenr]; omega)) only [↓amPre, amPost0, amPost1, amPost2, amPost3, ↓reduceIte, reduceCtorEq, Nat.reduceEqDiff, Nat.reduceBEq, Nat.reduceAdd, Nat.reduceLeDiff, Nat.reduceSub, Nat.reduceMul, Int.reduceToNat, List.size_toArray, tyF, MM, bu0, ipure, kpure, tpure, sspure, kset, tset, ksnoc, tsnoc, Kind.av, Twist.sl, Twist.tr, Invar.av, stsize, stget, sttl, stapp, stext, tsspure, Model.sl, Model.tr, vset, vsnoc, vpure, f8, f3, f6, f7, f1, m1, lt_true h2]
    refine callP_of (sTrivial m.ks _ hl3) ?_
    cases t1 : trivK m.ks ((j + 1 : Nat) : Int) m.ks.length with
    | true =>
      rw [if_pos t1] at ht1
      have t2 := triv_cons m c j (by omega) t1
      rw [if_pos t2] at hg1
      simp -dsimp -implicitDefEqProofs (disch := first | omega | (simp only [lenr]; done) | (simp only [lenr]; omega)) only [↓amPre, amPost0, amPost1, amPost2, amPost3, ↓reduceIte, reduceCtorEq, Nat.reduceEqDiff, Nat.reduceBEq, Nat.reduceAdd, Nat.reduceLeDiff, Nat.reduceSub, Nat.reduceMul, Int.reduceToNat, List.size_toArray, tyF, MM, bu0, ipure, kpure, tpure, sspure, kset, tset, ksnoc, tsnoc, Kind.av, Twist.sl, Twist.tr, Invar.av, stsize, stget, sttl, stapp, stext, tsspure, Model.sl, Model.tr, vset, vsnoc, vpure, f8, f3, f6, f7, f1, m1, t1]
      refine callP_of (sIsConserved m ⟨2, ((j + 1 : Nat) : Int)⟩ h (by unfold intOk; simp only; omega)) ?_
      simp -dsimp -implicitDefEqProofs (disch := first | omega | (simp only [lenr]; done) | (simp only [lenr]; omega)) only [↓amPre, amPost0, amPost1, amPost2, amPost3, ↓reduceIte, reduceCtorEq, Nat.reduceEqDiff, Nat.reduceBEq, Nat.reduceAdd, Nat.reduceLeDiff, Nat.reduceSub, Nat.reduceMul, Int.reduceToNat, List.size_toArray, tyF, MM, bu0, ipure, kpure, tpure, sspure, kset, tset, ksnoc, tsnoc, Kind.av, Twist.sl, Twist.tr, Invar.av, stsize, stget, sttl, stapp, stext, tsspure, Model.sl, Model.tr, vset, vsnoc, vpure, f8, f3, f6, f7, f1, m1, t2]
      repeat' (first | omega | rfl | exact i64c (by omega) | exact vic (by omega) | apply And.intro)
    | false =>
      rw [if_neg (by rw [t1]; simp)] at ht1
      simp -dsimp -implicitDefEqProofs (disch := first | omega | (simp only [lenr]; done) | (simp only [lenr]; omega)) only [↓amPre, amPost0, amPost1, amPost2, amPost3, ↓reduceIte, reduceCtorEq, Nat.reduceEqDiff, Nat.reduceBEq, Nat.reduceAdd, Nat.reduceLeDiff, Nat.reduceSub, Nat.reduceMul, Int.reduceToNat, List.size_toArray, tyF, MM, bu0, ipure, kpure, tpure, sspure, kset, tset, ksnoc, tsnoc, Kind.av, Twist.sl, Twist.tr, Invar.av, stsize, stget, sttl, stapp, stext, tsspure, Model.sl, Model.tr, vset, vsnoc, vpure, f8, f3, f6, f7, f1, m1, t1]
      refine callP_of (sIsConserved m ⟨2, ((j + 1 : Nat) : Int)⟩ h (by unfold intOk; simp only; omega)) ?_
      by_cases t2 : consM m ⟨2, ((j + 1 : Nat) : Int)⟩
      · rw [if_pos t2] at hg1
        simp -dsimp -implicitDefEqProofs (disch := first | omega | (simp only [lenr]; done) | (simp only [lenr]; omega)) only [↓amPre, amPost0, amPost1, amPost2, amPost3, ↓reduceIte, reduceCtorEq, Nat.reduceEqDiff, Nat.reduceBEq, Nat.reduceAdd, Nat.reduceLeDiff, Nat.reduceSub, Nat.reduceMul, Int.reduceToNat, List.size_toArray, tyF, MM, bu0, ipure, kpure, tpure, sspure, kset, tset, ksnoc, tsnoc, Kind.av, Twist.sl, Twist.tr, Invar.av, stsize, stget, sttl, stapp, stext, tsspure, Model.sl, Model.tr, vset, vsnoc, vpure, f8, f3, f6, f7, f1, m1, t2]
        repeat' (first | omega | rfl | exact i64c (by omega) | exact vic (by omega) | apply And.intro)
      · rw [if_neg t2] at hg1
        simp -dsimp -implicitDefEqProofs (disch := first | omega | (simp only [lenr]; done) | (simp only [lenr]; omega)) only [↓amPre, amPost0, amPost1, amPost2, amPost3, ↓reduceIte, reduceCtorEq, Nat.reduceEqDiff, Nat.reduceBEq, Nat.reduceAdd, Nat.reduceLeDiff, Nat.reduceSub, Nat.reduceMul, Int.reduceToNat, List.size_toArray, tyF, MM, bu0, ipure, kpure, tpure, sspure, kset, tset, ksnoc, tsnoc, Kind.av, Twist.sl, Twist.tr, Invar.av, stsize, stget, sttl, stapp, stext, tsspure, Model.sl, Model.tr, vset, vsnoc, vpure, f8, f3, f6, f7, f1, m1, t2]
        repeat' (first | omega | rfl | exact i64c (by omega) | exact vic (by omega) | apply And.intro)
  have hje : j = 2 ^ m.ks.length - 1 := by omega
  have h2 : (((2 ^ m.ks.length : Nat) : Int) ≤ ((j + 1 : Nat) : Int)) := by omega
  rw [← hje] at hR htg
  have hq := tdiv_le (goodN m j : Int) (trvN m.ks j) (by omega) (by omega)
  have hq1 : 1 ≤ (goodN m j : Int).tdiv (trvN m.ks j) := by
    rw [Int.tdiv_eq_ediv_of_nonneg (by omega)]
    exact (Int.le_ediv_iff_mul_le (by omega)).2 (by omega)
  have hw := tdiv_le X ((goodN m j : Int).tdiv (trvN m.ks j)) hdl.1 hq1
  have w1 : IntKind.i64.wrap ((goodN m j : Int).tdiv (trvN m.ks j)) = (goodN m j : Int).tdiv (trvN m.ks j) := wrap64_id (by omega)
  have w2 : IntKind.i64.wrap (X.tdiv ((goodN m j : Int).tdiv (trvN m.ks j))) = X.tdiv ((goodN m j : Int).tdiv (trvN m.ks j)) := wrap64_id (by omega)
  simp -dsimp -implicitDefEqProofs (disch := first | omega | (simp only [lenr]; done) | (simp only [lenr]; omega)) only [↓amPre, amPost0, amPost1, amPost2, amPost3, ↓reduceIte, reduceCtorEq, Nat.reduceEqDiff, Nat.reduceBEq, Nat.reduceAdd, Nat.reduceLeDiff, Nat.reduceSub, Nat.reduceMul, Int.reduceToNat, List.size_toArray, tyF, MM, bu0, ipure, kpure, tpure, sspure, kset, tset, ksnoc, tsnoc, Kind.av, Twist.sl, Twist.tr, Invar.av, stsize, stget, sttl, stapp, stext, tsspure, Model.sl, Model.tr, vset, vsnoc, vpure, f8, f3, f6, f7, f1, m1]
  refine callP_of (sl22Sets m.ks c.1) ?_
  simp -dsimp -implicitDefEqProofs (disch := first | omega | (simp only [lenr]; done) | (simp only [lenr]; omega)) only [↓amPre, amPost0, amPost1, amPost2, amPost3, ↓reduceIte, reduceCtorEq, Nat.reduceEqDiff, Nat.reduceBEq, Nat.reduceAdd, Nat.reduceLeDiff, Nat.reduceSub, Nat.reduceMul, Int.reduceToNat, List.size_toArray, tyF, MM, bu0, ipure, kpure, tpure, sspure, kset, tset, ksnoc, tsnoc, Kind.av, Twist.sl, Twist.tr, Invar.av, stsize, stget, sttl, stapp, stext, tsspure, Model.sl, Model.tr, vset, vsnoc, vpure, f8, f3, f6, f7, f1, m1, lt_false h2, w1, w2, hR]
end Go.AM

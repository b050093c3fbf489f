/-
  CONTRACTS of functions of the program, and what they compute, by content.
-/
import Derived.Test.YtbhaeaehgmpfhaaCU33
set_option linter.unusedVariables false
set_option linter.unusedSimpArgs false
set_option maxRecDepth 8000
namespace Go.AM
open Go.Proofs
theorem odd_xor (s : List Twist) (a b : Nat) (ha : a < 8) (hb : b < 8) : ∀ n, n ≤ 3 → (oddS s a n + oddS s b n + oddS s ((a ^^^ b : Nat) : Int) n) % 2 = 0
  | 0, _ => rfl
  | n + 1, h => by
    have ih := odd_xor s a b ha hb n (by omega)
    have hx : a ^^^ b < 8 := xor_lt (n := 3) ha hb
    rw [oddS, oddS, oddS, bitK_nat a ha n (by omega), bitK_nat b hb n (by omega), bitK_nat _ hx n (by omega), Nat.testBit_xor]
    by_cases w : sgnI (s.getD n default).to < 0
    · cases a.testBit n <;> cases b.testBit n <;> simp [w] <;> omega
    · simp only [w, and_false, if_false]; omega
theorem xor_ne : ∀ a : Nat, a < 8 → ∀ b : Nat, b < 8 → a ≠ b → a ^^^ b ≠ 0 := by decide +kernel
theorem cons_xor (m : Model) (c : modelOk m) (a b : Nat) (ha : 1 ≤ a ∧ a < 2 ^ m.ks.length) (hb : 1 ≤ b ∧ b < 2 ^ m.ks.length) (hab : a ≠ b) (h1 : consM m ⟨2, (a : Int)⟩) (h2 : consM m ⟨2, (b : Int)⟩) : consM m ⟨2, ((a ^^^ b : Nat) : Int)⟩ := by
  have hl3 := c.1.1.2
  have hp := pow_small hl3
  have hx := xor_lt ha.2 hb.2
  have hne := xor_ne a (by omega) b (by omega) hab
  refine ⟨c, fun s hs => ?_⟩
  have ps := c.2.2.2 s hs
  have e1 := h1.2 s hs
  have e2 := h2.2 s hs
  have i1 : ∀ x : Nat, invV m.ks s ⟨2, (x : Int)⟩ = parR m.ks s (x : Int) := fun _ => rfl
  rw [i1, parR, if_pos ⟨ps, by omega, by omega⟩, parS, ps.2.1] at e1 e2
  rw [i1, parR, if_pos ⟨ps, by omega, by omega⟩, parS, ps.2.1]
  have hxo := odd_xor s a b (by omega) (by omega) m.ks.length hl3
  omega
theorem cB_pos (m : Model) {s : Nat} (h : 1 ≤ s) : cB m s = decide (consM m ⟨2, (s : Int)⟩) := by
  have : (s == 0) = false := by simp; omega
  rw [cB, this, Bool.false_or]
theorem cB_zero (m : Model) : cB m 0 = true := rfl
theorem cl_ok (m : Model) (c : modelOk m) : clB (cB m) m.ks.length = true := by
  unfold clB
  rw [List.all_eq_true]; intro a ha
  rw [List.all_eq_true]; intro b hb
  have ha := List.mem_range.1 ha
  have hb := List.mem_range.1 hb
  by_cases a0 : a = 0
  · subst a0; rw [Nat.zero_xor, cB_zero]; cases cB m b <;> rfl
  by_cases b0 : b = 0
  · subst b0; rw [Nat.xor_zero, cB_zero]; cases cB m a <;> rfl
  by_cases ab : a = b
  · subst ab; rw [Nat.xor_self, cB_zero]; cases cB m a <;> rfl
  have hl3 := c.1.1.2
  have hp := pow_small hl3
  have hne := xor_ne a (by omega) b (by omega) ab
  rw [cB_pos m (show 1 ≤ a by omega), cB_pos m (show 1 ≤ b by omega), cB_pos m (show 1 ≤ a ^^^ b by omega)]
  by_cases h1 : consM m ⟨2, (a : Int)⟩
  · by_cases h2 : consM m ⟨2, (b : Int)⟩
    · have h3 := cons_xor m c a b ⟨by omega, ha⟩ ⟨by omega, hb⟩ ab h1 h2
      rw [decide_eq_true h3, Bool.or_true]
    · rw [decide_eq_false h2, Bool.and_false]; rfl
  · rw [decide_eq_false h1]; rfl
theorem sb_ok (m : Model) (c : modelOk m) : sbB (cB m) (dK m.ks) m.ks.length = true := by
  have hl3 := c.1.1.2
  have hp := pow_small hl3
  unfold sbB
  rw [List.all_eq_true]; intro s hs
  have hs := List.mem_range.1 hs
  match s, hs with
  | 0, _ => rw [cB_zero, Bool.or_true]
  | j + 1, hs =>
    cases t : trB (dK m.ks) m.ks.length (j + 1) with
    | false => rfl
    | true =>
      have h3 := triv_cons m c j (by omega) (by rw [triv_nat m.ks (j + 1) (by omega) _ hl3, t])
      rw [cB_pos m (by omega), decide_eq_true h3]; rfl
theorem stK_fac (o : Nat) : ∀ c, 1 ≤ c → ∃ g, stK o c = o * g ∧ (2 ≤ c → 2 ∣ g)
  | 1, _ => ⟨1, by simp [stK], fun h => by omega⟩
  | c + 2, _ => by
    obtain ⟨g, h1, h2⟩ := stK_fac o (c + 1) (by omega)
    refine ⟨stK o (c + 1) * (c + 2), by rw [stK, show c + 1 + 1 = c + 2 from rfl, Nat.mul_comm o, Nat.mul_assoc], fun _ => ?_⟩
    by_cases c0 : c = 0
    · subst c0; exact Nat.dvd_mul_left _ _
    · rw [h1, Nat.mul_assoc]
      exact Nat.dvd_trans (h2 (by omega)) (Nat.dvd_trans (Nat.dvd_mul_right g (c + 2)) (Nat.dvd_mul_left _ _))
theorem tdivN (a b : Nat) : (a : Int).tdiv b = ((a / b : Nat) : Int) := by
  rw [Int.tdiv_eq_ediv_of_nonneg (by omega)]; exact (Int.natCast_ediv a b).symm
theorem dvN_id (ks : List Kind) : ∀ (l : List Invar) (n : Int), (∀ i ∈ l, i.k ≠ 1) → dvN ks l n = n
  | [], _, _ => rfl
  | i :: r, n, h => by
    have e : dvN ks (i :: r) n = dvN ks r (dvS ks n i) := rfl
    rw [e, dvS, if_neg (h i (by simp))]
    exact dvN_id ks r n fun x hx => h x (by simp [hx])
theorem dv_fac (m : Model) (hk : kindsOk m.ks) : ∀ j, j ≤ m.ks.length → ∀ R : Nat, ∃ F : Nat, dvN m.ks ((twL j).filter (keepI m)) ((stC (m.ks.take j) * R : Nat) : Int) = ((F * R : Nat) : Int) ∧ prB (dK m.ks) j ∣ F
  | 0, _, R => ⟨1, by simp [twL, dvN, stC], by simp [prB]⟩
  | j + 1, hj, R => by
    have hkj := hk.2.1 _ (mem_getD m.ks j default (by omega))
    obtain ⟨⟨c1, _⟩, o1, _⟩ := hkj
    obtain ⟨g, g1, g2⟩ := stK_fac (m.ks.getD j default).o.toNat (m.ks.getD j default).c.toNat (by omega)
    obtain ⟨F, f1, f2⟩ := dv_fac m hk j (by omega) (stK (m.ks.getD j default).o.toNat (m.ks.getD j default).c.toNat * R)
    have hs := stC_take m.ks j (by omega)
    have hf := filter_snoc (keepI m) (twL j) ⟨1, (j : Int)⟩
    rw [← twL_succ] at hf
    have hd2 : (if dK m.ks j = true then 2 else 1) ∣ g := by
      split
      · rename_i q
        have := of_decide_eq_true q
        exact g2 (by omega)
      · exact Nat.one_dvd _
    rw [hs, hf, Nat.mul_assoc]
    by_cases w : keepI m ⟨1, (j : Int)⟩ = true
    · rw [if_pos w]
      have e : dvN m.ks ((twL j).filter (keepI m) ++ [⟨1, (j : Int)⟩]) ((stC (m.ks.take j) * (stK (m.ks.getD j default).o.toNat (m.ks.getD j default).c.toNat * R) : Nat) : Int) = dvS m.ks ((F * (stK (m.ks.getD j default).o.toNat (m.ks.getD j default).c.toNat * R) : Nat) : Int) ⟨1, (j : Int)⟩ := by
        rw [← f1]; unfold dvN; rw [List.foldl_append]; rfl
      refine ⟨F * g, ?_, ?_⟩
      · rw [e, dvS, if_pos rfl]
        simp only [Int.toNat_natCast]
        obtain ⟨o, ho⟩ : ∃ o : Nat, (m.ks.getD j default).o = o := ⟨_, (Int.toNat_of_nonneg (by omega)).symm⟩
        rw [ho, Int.toNat_natCast] at g1
        rw [ho, Int.toNat_natCast, tdivN, g1]
        congr 1
        have : F * (o * g * R) = o * (F * g * R) := by simp only [Nat.mul_assoc, Nat.mul_left_comm]
        rw [this, Nat.mul_div_cancel_left _ (by omega)]
      · rw [prB]; exact Nat.mul_dvd_mul f2 hd2
    · rw [if_neg w]
      refine ⟨F * stK (m.ks.getD j default).o.toNat (m.ks.getD j default).c.toNat, ?_, ?_⟩
      · rw [f1, Nat.mul_assoc]
      · rw [prB]; exact Nat.mul_dvd_mul f2 (Nat.dvd_trans hd2 (by rw [g1]; exact Nat.dvd_mul_left _ _))
theorem prB_pos (d : Nat → Bool) : ∀ n, 1 ≤ prB d n
  | 0 => Nat.le_refl _
  | n + 1 => Nat.mul_pos (prB_pos d n) (by split <;> omega)
theorem fill (m : Model) (c : modelOk m) : cscR m = ((dvN m.ks (consL m) (stC m.ks)).tdiv (allP m.ks (2 ^ m.ks.length))) * goodP m.ks (consL m) (2 ^ m.ks.length) ∧ 1 ≤ allP m.ks (2 ^ m.ks.length) ∧ cscR m ≤ 9223372036854775807 ∧ 0 ≤ cscR m := by
  have hl3 := c.1.1.2
  have hp := pow_small hl3
  have hsb := st_bound m.ks c.1
  have hR : cscR m = (dvN m.ks (consL m) (stC m.ks)).tdiv ((goodN m (2 ^ m.ks.length - 1) : Int).tdiv (trvN m.ks (2 ^ m.ks.length - 1))) := if_pos c
  have htg := trv_good m c _ (Nat.le_refl _)
  have ht1 := (trvN_le m.ks (2 ^ m.ks.length - 1)).1
  have hdl := dvN_le m.ks c.1 (consL m) (stC m.ks) (by omega) fun i hi => cons_kind i hi
  obtain ⟨F, f1, f2⟩ := dv_fac m c.1 m.ks.length (Nat.le_refl _) 1
  rw [List.take_length, Nat.mul_one, Nat.mul_one] at f1
  have hdv : dvN m.ks (consL m) (stC m.ks) = (F : Int) := by
    rw [← f1]
    unfold consL allI dvN
    rw [List.filter_append, List.foldl_append]
    refine dvN_id m.ks _ _ fun i hi => ?_
    obtain ⟨n, hn, rfl⟩ := List.mem_map.1 (List.mem_filter.1 hi).1
    simp
  have hfin := fin_all (cB m) (dK m.ks) m.ks.length c.1.1.1 hl3 (cB_zero m)
  unfold okB at hfin
  rw [sb_ok m c, cl_ok m c] at hfin
  simp only [Bool.and_self, Bool.not_true, Bool.false_or, Bool.and_eq_true, beq_iff_eq] at hfin
  obtain ⟨k1, k2⟩ := hfin
  have eg : goodN m (2 ^ m.ks.length - 1) = gNB (cB m) m.ks.length := by rw [goodN_nat, show 2 ^ m.ks.length - 1 + 1 = 2 ^ m.ks.length by omega]; rfl
  have et : trvN m.ks (2 ^ m.ks.length - 1) = gNB (trB (dK m.ks) m.ks.length) m.ks.length := by rw [trvN_nat m.ks hl3 _ (by omega), show 2 ^ m.ks.length - 1 + 1 = 2 ^ m.ks.length by omega]; rfl
  have ea : allP m.ks (2 ^ m.ks.length) = gNB (dsB (dK m.ks) m.ks.length) m.ks.length := by rw [allP_nat m.ks hl3 _ (by omega)]; rfl
  have ep : goodP m.ks (consL m) (2 ^ m.ks.length) = gPB (cB m) (dK m.ks) m.ks.length := by
    rw [goodP_nat m.ks _ hl3 _ (by omega)]
    unfold gPB
    rw [List.filter_congr fun s hs => by rw [kpL_nat m hl3 s (by have := List.mem_range.1 hs; omega)]]
  rw [← eg, ← et, ← ea, ← ep] at k1
  rw [← ea] at k2
  rw [← k2] at f2
  have hA : 1 ≤ allP m.ks (2 ^ m.ks.length) := by rw [k2]; exact prB_pos _ _
  have hg : 1 ≤ goodN m (2 ^ m.ks.length - 1) / trvN m.ks (2 ^ m.ks.length - 1) := (Nat.le_div_iff_mul_le (by omega)).2 (by omega)
  rw [hdv] at hR hdl ⊢
  rw [tdivN, tdivN] at hR
  rw [tdivN]
  generalize goodN m (2 ^ m.ks.length - 1) / trvN m.ks (2 ^ m.ks.length - 1) = g at hR hg k1
  generalize goodP m.ks (consL m) (2 ^ m.ks.length) = P at k1 ⊢
  generalize allP m.ks (2 ^ m.ks.length) = A at k1 hA f2 ⊢
  obtain ⟨q, rfl⟩ := f2
  have d1 : A * q / g = P * q := by rw [← k1, show P * g * q = g * (P * q) by simp only [Nat.mul_assoc, Nat.mul_left_comm], Nat.mul_div_cancel_left _ (by omega)]
  have d2 : A * q / A = q := Nat.mul_div_cancel_left _ (by omega)
  have d3 : A * q / g ≤ A * q := Nat.div_le_self _ _
  refine ⟨?_, hA, ?_, ?_⟩
  · rw [hR, d1, d2, Nat.mul_comm]; exact Int.natCast_mul q P
  · rw [hR]; omega
  · rw [hR]; omega
theorem iConsistent (m : Model) (h : smallM m) : SpecAt Try.prog 50 [m.sl] (.i64 (cscR m)) := by
  refine spec_of_awp (M := MM) (np := 1) (fz := true) mixed Try.func50 rfl rfl (by decide) rfl (Nat.le_refl _) (by decide +kernel) (.inr ⟨rfl, rfl⟩) trivial ?_
  simp -dsimp -implicitDefEqProofs (disch := first | omega | (simp only [lenr]; done) | (simp only [lenr]; omega)) only [↓amPre, amPost0, amPost1, amPost2, amPost3, ↓reduceIte, reduceCtorEq, Nat.reduceEqDiff, Nat.reduceBEq, Nat.reduceAdd, Nat.reduceLeDiff, Nat.reduceSub, Nat.reduceMul, Int.reduceToNat, List.size_toArray, tyF, MM, bu0, ipure, kpure, tpure, sspure, kset, tset, ksnoc, tsnoc, Kind.av, Twist.sl, Twist.tr, Invar.av, stsize, stget, sttl, stapp, stext, tsspure, Model.sl, Model.tr, vset, vsnoc, vpure]
  refine callP_of (iIsValidPieceModel m h) ?_
  by_cases c : modelOk m
  case neg =>
    have hR : cscR m = 0 := if_neg c
    simp -dsimp -implicitDefEqProofs (disch := first | omega | (simp only [lenr]; done) | (simp only [lenr]; omega)) only [↓amPre, amPost0, amPost1, amPost2, amPost3, ↓reduceIte, reduceCtorEq, Nat.reduceEqDiff, Nat.reduceBEq, Nat.reduceAdd, Nat.reduceLeDiff, Nat.reduceSub, Nat.reduceMul, Int.reduceToNat, List.size_toArray, tyF, MM, bu0, ipure, kpure, tpure, sspure, kset, tset, ksnoc, tsnoc, Kind.av, Twist.sl, Twist.tr, Invar.av, stsize, stget, sttl, stapp, stext, tsspure, Model.sl, Model.tr, vset, vsnoc, vpure, c, hR]
  have hcr : consR m = consL m := if_pos c
  obtain ⟨hR, hal, hr1, hr0⟩ := fill m c
  have hle := consL_le m c
  have hck := cons_kind (m := m)
  have hsb := st_bound m.ks c.1
  have hl3 := c.1.1.2
  have hpw := pow_small hl3
  simp -dsimp -implicitDefEqProofs (disch := first | omega | (simp only [lenr]; done) | (simp only [lenr]; omega)) only [↓amPre, amPost0, amPost1, amPost2, amPost3, ↓reduceIte, reduceCtorEq, Nat.reduceEqDiff, Nat.reduceBEq, Nat.reduceAdd, Nat.reduceLeDiff, Nat.reduceSub, Nat.reduceMul, Int.reduceToNat, List.size_toArray, tyF, MM, bu0, ipure, kpure, tpure, sspure, kset, tset, ksnoc, tsnoc, Kind.av, Twist.sl, Twist.tr, Invar.av, stsize, stget, sttl, stapp, stext, tsspure, Model.sl, Model.tr, vset, vsnoc, vpure, c]
  refine callP_of (iConserved m h) ?_
  rw [hcr]
  generalize hL : consL m = L at hle hR hck
  simp -dsimp -implicitDefEqProofs (disch := first | omega | (simp only [lenr]; done) | (simp only [lenr]; omega)) only [↓amPre, amPost0, amPost1, amPost2, amPost3, ↓reduceIte, reduceCtorEq, Nat.reduceEqDiff, Nat.reduceBEq, Nat.reduceAdd, Nat.reduceLeDiff, Nat.reduceSub, Nat.reduceMul, Int.reduceToNat, List.size_toArray, tyF, MM, bu0, ipure, kpure, tpure, sspure, kset, tset, ksnoc, tsnoc, Kind.av, Twist.sl, Twist.tr, Invar.av, stsize, stget, sttl, stapp, stext, tsspure, Model.sl, Model.tr, vset, vsnoc, vpure]
  refine callP_of (istateCount m.ks c.1) ?_
  simp -dsimp -implicitDefEqProofs (disch := first | omega | (simp only [lenr]; done) | (simp only [lenr]; omega)) only [↓amPre, amPost0, amPost1, amPost2, amPost3, ↓reduceIte, reduceCtorEq, Nat.reduceEqDiff, Nat.reduceBEq, Nat.reduceAdd, Nat.reduceLeDiff, Nat.reduceSub, Nat.reduceMul, Int.reduceToNat, List.size_toArray, tyF, MM, bu0, ipure, kpure, tpure, sspure, kset, tset, ksnoc, tsnoc, Kind.av, Twist.sl, Twist.tr, Invar.av, stsize, stget, sttl, stapp, stext, tsspure, Model.sl, Model.tr, vset, vsnoc, vpure]
  refine awp_loop (fun k st => k ≤ L.length ∧ st.fr 19 = .i64 k ∧ st.fr 18 = .i64 L.length ∧ st.fr 17 = .ref 13 [] 2 0 L.length ∧ st.fr 3 = .ref 13 [] 2 0 L.length ∧ st.fr 4 = .i64 (dvN m.ks (L.take k) (stC m.ks)) ∧ st.fr 1 = .loc 1 [] 0 0 ∧ st.mem 13 = some (vtr L) ∧ st.mem 1 = some (.pt 3 (.agg [ksl m.ks, .st m.nm, tssl m.mv]))) (L.length) ?_ ?_
  · simp -dsimp -implicitDefEqProofs (disch := first | omega | (simp only [lenr]; done) | (simp only [lenr]; omega)) only [↓amPre, amPost0, amPost1, amPost2, amPost3, ↓reduceIte, reduceCtorEq, Nat.reduceEqDiff, Nat.reduceBEq, Nat.reduceAdd, Nat.reduceLeDiff, Nat.reduceSub, Nat.reduceMul, Int.reduceToNat, List.size_toArray, tyF, MM, bu0, ipure, kpure, tpure, sspure, kset, tset, ksnoc, tsnoc, Kind.av, Twist.sl, Twist.tr, Invar.av, stsize, stget, sttl, stapp, stext, tsspure, Model.sl, Model.tr, vset, vsnoc, vpure]
    simp [dvN]
  rintro k st _ ⟨hk, f19, f18, f17, f3, f4, f1, m13, m1⟩
  have hdl := dvN_le m.ks c.1 (L.take k) (stC m.ks) (by omega) fun i hi => hck i (List.mem_of_mem_take hi)
  by_cases hlt : k < L.length
  · have hmem := mem_getD L k default hlt
    have hdt := dvN_take m.ks L (stC m.ks) k hlt
    by_cases ck : (L.getD k default).k = 1
    · obtain ⟨n, hn, en⟩ := hck _ hmem ck
      have ho := (c.1.2.1 _ (mem_getD m.ks n default hn)).2
      have e2 : dvS m.ks (dvN m.ks (L.take k) (stC m.ks)) (L.getD k default) = (dvN m.ks (L.take k) (stC m.ks)).tdiv (m.ks.getD n default).o := by rw [dvS, if_pos ck, en, Int.toNat_natCast]
      rw [e2] at hdt
      have hw := tdiv_le (dvN m.ks (L.take k) (stC m.ks)) (m.ks.getD n default).o hdl.1 ho.1
      have hw2 : IntKind.i64.wrap ((dvN m.ks (L.take k) (stC m.ks)).tdiv (m.ks.getD n default).o) = (dvN m.ks (L.take k) (stC m.ks)).tdiv (m.ks.getD n default).o := wrap64_id (by omega)
      have ho0 : (m.ks.getD n default).o ≠ 0 := by omega
      simp -dsimp -implicitDefEqProofs (disch := first | omega | (simp only [lenr]; done) | (simp only [lenr]; omega)) only [↓amPre, amPost0, amPost1, amPost2, amPost3, ↓reduceIte, reduceCtorEq, Nat.reduceEqDiff, Nat.reduceBEq, Nat.reduceAdd, Nat.reduceLeDiff, Nat.reduceSub, Nat.reduceMul, Int.reduceToNat, List.size_toArray, tyF, MM, bu0, ipure, kpure, tpure, sspure, kset, tset, ksnoc, tsnoc, Kind.av, Twist.sl, Twist.tr, Invar.av, stsize, stget, sttl, stapp, stext, tsspure, Model.sl, Model.tr, vset, vsnoc, vpure, f19, f18, f17, f3, f4, f1, m13, m1, eq_true ck, en, hw2, ho0]
      repeat' (first | omega | rfl | exact i64c (by omega) | exact vic (by omega) | apply And.intro)
    · have e2 : dvS m.ks (dvN m.ks (L.take k) (stC m.ks)) (L.getD k default) = dvN m.ks (L.take k) (stC m.ks) := if_neg ck
      rw [e2] at hdt
      simp -dsimp -implicitDefEqProofs (disch := first | omega | (simp only [lenr]; done) | (simp only [lenr]; omega)) only [↓amPre, amPost0, amPost1, amPost2, amPost3, ↓reduceIte, reduceCtorEq, Nat.reduceEqDiff, Nat.reduceBEq, Nat.reduceAdd, Nat.reduceLeDiff, Nat.reduceSub, Nat.reduceMul, Int.reduceToNat, List.size_toArray, tyF, MM, bu0, ipure, kpure, tpure, sspure, kset, tset, ksnoc, tsnoc, Kind.av, Twist.sl, Twist.tr, Invar.av, stsize, stget, sttl, stapp, stext, tsspure, Model.sl, Model.tr, vset, vsnoc, vpure, f19, f18, f17, f3, f4, f1, m13, m1, eq_false ck]
      repeat' (first | omega | rfl | exact i64c (by omega) | exact vic (by omega) | apply And.intro)
  have hke : k = L.length := by omega
  subst hke
  rw [List.take_length] at hdl f4
  generalize hX : dvN m.ks L (stC m.ks) = X at hdl f4 hR
  simp -dsimp -implicitDefEqProofs (disch := first | omega | (simp only [lenr]; done) | (simp only [lenr]; omega)) only [↓amPre, amPost0, amPost1, amPost2, amPost3, ↓reduceIte, reduceCtorEq, Nat.reduceEqDiff, Nat.reduceBEq, Nat.reduceAdd, Nat.reduceLeDiff, Nat.reduceSub, Nat.reduceMul, Int.reduceToNat, List.size_toArray, tyF, MM, bu0, ipure, kpure, tpure, sspure, kset, tset, ksnoc, tsnoc, Kind.av, Twist.sl, Twist.tr, Invar.av, stsize, stget, sttl, stapp, stext, tsspure, Model.sl, Model.tr, vset, vsnoc, vpure, f19, f18, f17, f3, f4, f1, m13, m1, vfz]
  refine callP_of (parityShare m.ks L hl3 hle) ?_
  have hw := tdiv_le X (allP m.ks (2 ^ m.ks.length)) hdl.1 (by omega)
  have w1 : IntKind.i64.wrap (X.tdiv (allP m.ks (2 ^ m.ks.length))) = X.tdiv (allP m.ks (2 ^ m.ks.length)) := wrap64_id (by omega)
  have w2 : IntKind.i64.wrap (X.tdiv (allP m.ks (2 ^ m.ks.length)) * goodP m.ks L (2 ^ m.ks.length)) = X.tdiv (allP m.ks (2 ^ m.ks.length)) * goodP m.ks L (2 ^ m.ks.length) := by rw [← hR]; exact wrap64_id (by omega)
  simp -dsimp -implicitDefEqProofs (disch := first | omega | (simp only [lenr]; done) | (simp only [lenr]; omega)) only [↓amPre, amPost0, amPost1, amPost2, amPost3, ↓reduceIte, reduceCtorEq, Nat.reduceEqDiff, Nat.reduceBEq, Nat.reduceAdd, Nat.reduceLeDiff, Nat.reduceSub, Nat.reduceMul, Int.reduceToNat, List.size_toArray, tyF, MM, bu0, ipure, kpure, tpure, sspure, kset, tset, ksnoc, tsnoc, Kind.av, Twist.sl, Twist.tr, Invar.av, stsize, stget, sttl, stapp, stext, tsspure, Model.sl, Model.tr, vset, vsnoc, vpure, f19, f18, f17, f3, f4, f1, m13, m1, w1, w2, hR]
theorem lawConsistent (m : Model) (w : wfM m) : SpecAt Try.prog 9 [m.sl] (.bl true) := by
  refine spec_of_awp_any (M := MM) (np := 1) (X := [10]) (fz := true) mixed Try.func9 rfl rfl (by decide) rfl (Nat.le_refl _) (by decide +kernel) (.inr ⟨rfl, rfl⟩) trivial ?_
  simp -dsimp -implicitDefEqProofs (disch := first | omega | (simp only [lenr]; done) | (simp only [lenr]; omega)) only [↓amPre, amPost0, amPost1, amPost2, amPost3, ↓reduceIte, reduceCtorEq, Nat.reduceEqDiff, Nat.reduceBEq, Nat.reduceAdd, Nat.reduceLeDiff, Nat.reduceSub, Nat.reduceMul, Int.reduceToNat, List.size_toArray, tyF, MM, bu0, ipure, kpure, tpure, sspure, kset, tset, ksnoc, tsnoc, Kind.av, Twist.sl, Twist.tr, Invar.av, stsize, stget, sttl, stapp, stext, tsspure, Model.sl, Model.tr, vset, vsnoc, vpure]
  refine callP_of (szPieceModel m 1048576 (by omega) (by omega) w) ?_
  by_cases c1 : (1048576 : Int) - m.size < 0
  · simp -dsimp -implicitDefEqProofs (disch := first | omega | (simp only [lenr]; done) | (simp only [lenr]; omega)) only [↓amPre, amPost0, amPost1, amPost2, amPost3, ↓reduceIte, reduceCtorEq, Nat.reduceEqDiff, Nat.reduceBEq, Nat.reduceAdd, Nat.reduceLeDiff, Nat.reduceSub, Nat.reduceMul, Int.reduceToNat, List.size_toArray, tyF, MM, bu0, ipure, kpure, tpure, sspure, kset, tset, ksnoc, tsnoc, Kind.av, Twist.sl, Twist.tr, Invar.av, stsize, stget, sttl, stapp, stext, tsspure, Model.sl, Model.tr, vset, vsnoc, vpure, szR_neg c1]
  have c1' : 0 ≤ (1048576 : Int) - m.size := by omega
  obtain ⟨h, _⟩ := szM_small (by omega) c1'
  simp -dsimp -implicitDefEqProofs (disch := first | omega | (simp only [lenr]; done) | (simp only [lenr]; omega)) only [↓amPre, amPost0, amPost1, amPost2, amPost3, ↓reduceIte, reduceCtorEq, Nat.reduceEqDiff, Nat.reduceBEq, Nat.reduceAdd, Nat.reduceLeDiff, Nat.reduceSub, Nat.reduceMul, Int.reduceToNat, List.size_toArray, tyF, MM, bu0, ipure, kpure, tpure, sspure, kset, tset, ksnoc, tsnoc, Kind.av, Twist.sl, Twist.tr, Invar.av, stsize, stget, sttl, stapp, stext, tsspure, Model.sl, Model.tr, vset, vsnoc, vpure, szR_pos c1']
  refine callP_of (toPieceModel m h) ?_
  simp -dsimp -implicitDefEqProofs (disch := first | omega | (simp only [lenr]; done) | (simp only [lenr]; omega)) only [↓amPre, amPost0, amPost1, amPost2, amPost3, ↓reduceIte, reduceCtorEq, Nat.reduceEqDiff, Nat.reduceBEq, Nat.reduceAdd, Nat.reduceLeDiff, Nat.reduceSub, Nat.reduceMul, Int.reduceToNat, List.size_toArray, tyF, MM, bu0, ipure, kpure, tpure, sspure, kset, tset, ksnoc, tsnoc, Kind.av, Twist.sl, Twist.tr, Invar.av, stsize, stget, sttl, stapp, stext, tsspure, Model.sl, Model.tr, vset, vsnoc, vpure, kfz, tssfz]
  refine callP_of (sConsistent m h) ?_
  simp -dsimp -implicitDefEqProofs (disch := first | omega | (simp only [lenr]; done) | (simp only [lenr]; omega)) only [↓amPre, amPost0, amPost1, amPost2, amPost3, ↓reduceIte, reduceCtorEq, Nat.reduceEqDiff, Nat.reduceBEq, Nat.reduceAdd, Nat.reduceLeDiff, Nat.reduceSub, Nat.reduceMul, Int.reduceToNat, List.size_toArray, tyF, MM, bu0, ipure, kpure, tpure, sspure, kset, tset, ksnoc, tsnoc, Kind.av, Twist.sl, Twist.tr, Invar.av, stsize, stget, sttl, stapp, stext, tsspure, Model.sl, Model.tr, vset, vsnoc, vpure, kfz, tssfz]
  refine callP_of (toPieceModel m h) ?_
  simp -dsimp -implicitDefEqProofs (disch := first | omega | (simp only [lenr]; done) | (simp only [lenr]; omega)) only [↓amPre, amPost0, amPost1, amPost2, amPost3, ↓reduceIte, reduceCtorEq, Nat.reduceEqDiff, Nat.reduceBEq, Nat.reduceAdd, Nat.reduceLeDiff, Nat.reduceSub, Nat.reduceMul, Int.reduceToNat, List.size_toArray, tyF, MM, bu0, ipure, kpure, tpure, sspure, kset, tset, ksnoc, tsnoc, Kind.av, Twist.sl, Twist.tr, Invar.av, stsize, stget, sttl, stapp, stext, tsspure, Model.sl, Model.tr, vset, vsnoc, vpure, kfz, tssfz]
  refine callP_of (iConsistent m h) ?_
  simp -dsimp -implicitDefEqProofs (disch := first | omega | (simp only [lenr]; done) | (simp only [lenr]; omega)) only [↓amPre, amPost0, amPost1, amPost2, amPost3, ↓reduceIte, reduceCtorEq, Nat.reduceEqDiff, Nat.reduceBEq, Nat.reduceAdd, Nat.reduceLeDiff, Nat.reduceSub, Nat.reduceMul, Int.reduceToNat, List.size_toArray, tyF, MM, bu0, ipure, kpure, tpure, sspure, kset, tset, ksnoc, tsnoc, Kind.av, Twist.sl, Twist.tr, Invar.av, stsize, stget, sttl, stapp, stext, tsspure, Model.sl, Model.tr, vset, vsnoc, vpure, kfz, tssfz]
  refine split_go 3 (by decide +kernel) ?_
  simp -dsimp -implicitDefEqProofs (disch := first | omega | (simp only [lenr]; done) | (simp only [lenr]; omega)) only [↓amPre, amPost0, amPost1, amPost2, amPost3, ↓reduceIte, reduceCtorEq, Nat.reduceEqDiff, Nat.reduceBEq, Nat.reduceAdd, Nat.reduceLeDiff, Nat.reduceSub, Nat.reduceMul, Int.reduceToNat, List.size_toArray, tyF, MM, bu0, ipure, kpure, tpure, sspure, kset, tset, ksnoc, tsnoc, Kind.av, Twist.sl, Twist.tr, Invar.av, stsize, stget, sttl, stapp, stext, tsspure, Model.sl, Model.tr, vset, vsnoc, vpure, kfz, tssfz]
  refine callP_of (toPieceModel m h) ?_
  simp -dsimp -implicitDefEqProofs (disch := first | omega | (simp only [lenr]; done) | (simp only [lenr]; omega)) only [↓amPre, amPost0, amPost1, amPost2, amPost3, ↓reduceIte, reduceCtorEq, Nat.reduceEqDiff, Nat.reduceBEq, Nat.reduceAdd, Nat.reduceLeDiff, Nat.reduceSub, Nat.reduceMul, Int.reduceToNat, List.size_toArray, tyF, MM, bu0, ipure, kpure, tpure, sspure, kset, tset, ksnoc, tsnoc, Kind.av, Twist.sl, Twist.tr, Invar.av, stsize, stget, sttl, stapp, stext, tsspure, Model.sl, Model.tr, vset, vsnoc, vpure, kfz, tssfz]
  refine callP_of (eqPieceModel m m h) ?_
  simp -dsimp -implicitDefEqProofs (disch := first | omega | (simp only [lenr]; done) | (simp only [lenr]; omega)) only [↓amPre, amPost0, amPost1, amPost2, amPost3, ↓reduceIte, reduceCtorEq, Nat.reduceEqDiff, Nat.reduceBEq, Nat.reduceAdd, Nat.reduceLeDiff, Nat.reduceSub, Nat.reduceMul, Int.reduceToNat, List.size_toArray, tyF, MM, bu0, ipure, kpure, tpure, sspure, kset, tset, ksnoc, tsnoc, Kind.av, Twist.sl, Twist.tr, Invar.av, stsize, stget, sttl, stapp, stext, tsspure, Model.sl, Model.tr, vset, vsnoc, vpure, kfz, tssfz]
end Go.AM

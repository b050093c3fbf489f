/-
  CONTRACTS of functions of the program, and what they compute, by content.
-/
import Derived.Test.YtbhaeaehgmpfhaaCU31
set_option linter.unusedVariables false
set_option linter.unusedSimpArgs false
set_option maxRecDepth 8000
namespace Go.AM
open Go.Proofs
def trB (d : Nat → Bool) (n s : Nat) : Bool := (List.range n).all fun k => !(s.testBit k && d k)
def dsB (d : Nat → Bool) (n s : Nat) : Bool := (List.range n).all fun k => !s.testBit k || d k
def evB (s t : Nat) : Bool := ((s &&& t) ^^^ ((s &&& t) >>> 1) ^^^ ((s &&& t) >>> 2)) % 2 == 0
def gNB (C : Nat → Bool) (n : Nat) : Nat := ((List.range (2 ^ n)).filter C).length
def gPB (C d : Nat → Bool) (n : Nat) : Nat := ((List.range (2 ^ n)).filter fun s => dsB d n s && (List.range (2 ^ n)).all fun t => !(C t && !trB d n t) || evB s t).length
def clB (C : Nat → Bool) (n : Nat) : Bool := (List.range (2 ^ n)).all fun a => (List.range (2 ^ n)).all fun b => !(C a && C b) || C (a ^^^ b)
def sbB (C d : Nat → Bool) (n : Nat) : Bool := (List.range (2 ^ n)).all fun s => !trB d n s || C s
def lk (c1 c2 c3 c4 c5 c6 c7 : Bool) : Nat → Bool
  | 0 => true | 1 => c1 | 2 => c2 | 3 => c3 | 4 => c4 | 5 => c5 | 6 => c6 | _ => c7
def ld (d0 d1 d2 : Bool) : Nat → Bool
  | 0 => d0 | 1 => d1 | _ => d2
def prB (d : Nat → Bool) : Nat → Nat
  | 0 => 1
  | k + 1 => prB d k * (if d k = true then 2 else 1)
def okB (C d : Nat → Bool) (n : Nat) : Bool := !(sbB C d n && clB C n) || (gPB C d n * (gNB C n / gNB (trB d n) n) == gNB (dsB d n) n && gNB (dsB d n) n == prB d n)
theorem fin1 : ∀ c1 d0 : Bool, okB (lk c1 true true true true true true) (ld d0 true true) 1 = true := by decide +kernel
theorem fin2 : ∀ c1 c2 c3 d0 d1 : Bool, okB (lk c1 c2 c3 true true true true) (ld d0 d1 true) 2 = true := by decide +kernel
theorem fin3 : ∀ c1 c2 c3 c4 c5 c6 c7 d0 d1 d2 : Bool, okB (lk c1 c2 c3 c4 c5 c6 c7) (ld d0 d1 d2) 3 = true := by decide +kernel
theorem all_congr {α : Type} {l : List α} {p q : α → Bool} (h : ∀ x ∈ l, p x = q x) : l.all p = l.all q := by
  induction l with
  | nil => rfl
  | cons a r ih => rw [List.all_cons, List.all_cons, h a (by simp), ih fun x hx => h x (by simp [hx])]
theorem trB_c {d e : Nat → Bool} {n : Nat} (h : ∀ k, k < n → d k = e k) (s : Nat) : trB d n s = trB e n s := all_congr fun k hk => by rw [h k (List.mem_range.1 hk)]
theorem dsB_c {d e : Nat → Bool} {n : Nat} (h : ∀ k, k < n → d k = e k) (s : Nat) : dsB d n s = dsB e n s := all_congr fun k hk => by rw [h k (List.mem_range.1 hk)]
theorem gNB_c {C D : Nat → Bool} {n : Nat} (h : ∀ s, s < 2 ^ n → C s = D s) : gNB C n = gNB D n := by
  unfold gNB; rw [List.filter_congr fun x hx => h x (List.mem_range.1 hx)]
theorem xor_lt {n a b : Nat} (ha : a < 2 ^ n) (hb : b < 2 ^ n) : a ^^^ b < 2 ^ n := Nat.xor_lt_two_pow ha hb
theorem prB_c {d e : Nat → Bool} : ∀ {n : Nat}, (∀ k, k < n → d k = e k) → prB d n = prB e n
  | 0, _ => rfl
  | n + 1, h => by rw [prB, prB, prB_c fun k hk => h k (by omega), h n (by omega)]
theorem okB_c {C D d e : Nat → Bool} {n : Nat} (h : ∀ s, s < 2 ^ n → C s = D s) (g : ∀ k, k < n → d k = e k) : okB C d n = okB D e n := by
  have h1 : sbB C d n = sbB D e n := all_congr fun s hs => by rw [trB_c g, h s (List.mem_range.1 hs)]
  have h2 : clB C n = clB D n := all_congr fun a ha => all_congr fun b hb => by
    have ha := List.mem_range.1 ha
    have hb := List.mem_range.1 hb
    rw [h a ha, h b hb, h _ (xor_lt ha hb)]
  have h3 : gPB C d n = gPB D e n := by
    unfold gPB
    rw [List.filter_congr fun s hs => ?_]
    rw [dsB_c g, all_congr fun t ht => ?_]
    rw [h t (List.mem_range.1 ht), trB_c g]
  have h4 : gNB (trB d n) n = gNB (trB e n) n := gNB_c fun s _ => trB_c g s
  have h5 : gNB (dsB d n) n = gNB (dsB e n) n := gNB_c fun s _ => dsB_c g s
  unfold okB
  rw [h1, h2, h3, h4, h5, gNB_c h, prB_c g]
theorem fin_all (C d : Nat → Bool) (n : Nat) (h1 : 1 ≤ n) (h3 : n ≤ 3) (h0 : C 0 = true) : okB C d n = true := by
  match n, h1, h3 with
  | 1, _, _ =>
    rw [← fin1 (C 1) (d 0)]
    exact okB_c (fun s hs => match s, hs with | 0, _ => h0 | 1, _ => rfl) (fun k hk => match k, hk with | 0, _ => rfl)
  | 2, _, _ =>
    rw [← fin2 (C 1) (C 2) (C 3) (d 0) (d 1)]
    exact okB_c (fun s hs => match s, hs with | 0, _ => h0 | 1, _ => rfl | 2, _ => rfl | 3, _ => rfl) (fun k hk => match k, hk with | 0, _ => rfl | 1, _ => rfl)
  | 3, _, _ =>
    rw [← fin3 (C 1) (C 2) (C 3) (C 4) (C 5) (C 6) (C 7) (d 0) (d 1) (d 2)]
    exact okB_c (fun s hs => match s, hs with | 0, _ => h0 | 1, _ => rfl | 2, _ => rfl | 3, _ => rfl | 4, _ => rfl | 5, _ => rfl | 6, _ => rfl | 7, _ => rfl) (fun k hk => match k, hk with | 0, _ => rfl | 1, _ => rfl | 2, _ => rfl)
theorem bitK_nat : ∀ s : Nat, s < 8 → ∀ k : Nat, k < 3 → bitK s k = s.testBit k := by decide +kernel
theorem evn_nat : ∀ s : Nat, s < 8 → ∀ t : Nat, t < 8 → evn s t = evB s t := by decide +kernel
theorem all_succ (p : Nat → Bool) (k : Nat) : (List.range (k + 1)).all p = ((List.range k).all p && p k) := by
  rw [List.range_succ, List.all_append]; simp
def dK (ks : List Kind) (k : Nat) : Bool := decide (1 < (ks.getD k default).c)
theorem triv_nat (ks : List Kind) (s : Nat) (hs : s < 8) : ∀ n, n ≤ 3 → trivK ks s n = trB (dK ks) n s
  | 0, _ => rfl
  | n + 1, h => by
    have ih := triv_nat ks s hs n (by omega)
    unfold trB at ih ⊢
    rw [trivK, ih, all_succ, bitK_nat s hs n (by omega)]; rfl
theorem dst_nat (ks : List Kind) (s : Nat) (hs : s < 8) : ∀ n, n ≤ 3 → dstK ks s n = dsB (dK ks) n s
  | 0, _ => rfl
  | n + 1, h => by
    have ih := dst_nat ks s hs n (by omega)
    unfold dsB at ih ⊢
    rw [dstK, ih, all_succ, bitK_nat s hs n (by omega)]; rfl
theorem flt_succ (p : Nat → Bool) (k : Nat) : ((List.range (k + 1)).filter p).length = ((List.range k).filter p).length + if p k = true then 1 else 0 := by
  rw [List.range_succ, List.filter_append, List.length_append]
  cases h : p k <;> simp [h]
def cB (m : Model) (s : Nat) : Bool := s == 0 || decide (consM m ⟨2, (s : Int)⟩)
theorem goodN_nat (m : Model) : ∀ j, goodN m j = ((List.range (j + 1)).filter (cB m)).length
  | 0 => by simp [goodN, cB, List.range_succ]
  | j + 1 => by
    rw [goodN, flt_succ, ← goodN_nat m j]
    have : cB m (j + 1) = decide (consM m ⟨2, ((j + 1 : Nat) : Int)⟩) := by unfold cB; simp
    rw [this]; simp
theorem trvN_nat (ks : List Kind) (hk : ks.length ≤ 3) : ∀ j, j < 8 → trvN ks j = ((List.range (j + 1)).filter (trB (dK ks) ks.length)).length
  | 0, _ => by
    have : trB (dK ks) ks.length 0 = true := by unfold trB; simp
    simp [trvN, List.range_succ, this]
  | j + 1, h => by
    rw [trvN, flt_succ, ← trvN_nat ks hk j (by omega), triv_nat ks (j + 1) h _ hk]
theorem allP_nat (ks : List Kind) (hk : ks.length ≤ 3) : ∀ j, j ≤ 8 → allP ks j = ((List.range j).filter (dsB (dK ks) ks.length)).length
  | 0, _ => rfl
  | j + 1, h => by
    rw [allP, flt_succ, ← allP_nat ks hk j (by omega), dst_nat ks j (by omega) _ hk]
theorem goodP_nat (ks : List Kind) (L : List Invar) (hk : ks.length ≤ 3) : ∀ j, j ≤ 8 → goodP ks L j = ((List.range j).filter fun s => dsB (dK ks) ks.length s && kpL (s : Nat) L).length
  | 0, _ => rfl
  | j + 1, h => by
    rw [goodP, flt_succ, ← goodP_nat ks L hk j (by omega), dst_nat ks j (by omega) _ hk]
theorem all_filter {α : Type} (l : List α) (p q : α → Bool) : (l.filter p).all q = l.all fun x => !p x || q x := by
  induction l with
  | nil => rfl
  | cons a r ih => rw [List.filter_cons]; cases h : p a <;> simp [h, ih]
theorem kpL_nat (m : Model) (hk : m.ks.length ≤ 3) (s : Nat) (hs : s < 8) : kpL (s : Nat) (consL m) = (List.range (2 ^ m.ks.length)).all fun t => !(cB m t && !trB (dK m.ks) m.ks.length t) || evB s t := by
  have hp := pow_small hk
  unfold kpL consL
  rw [all_filter, allI, List.all_append]
  have e1 : ((twL m.ks.length).all fun x => !keepI m x || kpO s x) = true := by
    rw [List.all_eq_true]
    intro x hx
    obtain ⟨n, hn, rfl⟩ := List.mem_map.1 hx
    simp [kpO]
  rw [e1, Bool.true_and]
  obtain ⟨N, hN⟩ : ∃ N, 2 ^ m.ks.length = N + 1 := ⟨2 ^ m.ks.length - 1, by omega⟩
  rw [hN, Nat.add_sub_cancel]
  have t0 : trB (dK m.ks) m.ks.length 0 = true := by unfold trB; simp
  rw [List.range_succ_eq_map, List.all_cons, t0]
  simp only [Bool.not_true, Bool.and_false, Bool.not_false, Bool.true_or, Bool.true_and, List.all_map]
  unfold paL
  rw [List.all_map]
  refine all_congr fun j hj => ?_
  have hj := List.mem_range.1 hj
  simp only [Function.comp]
  have e2 : keepI m ⟨2, ((j + 1 : Nat) : Int)⟩ = (cB m (j + 1) && !trB (dK m.ks) m.ks.length (j + 1)) := by
    unfold keepI
    have h1 : trivI m.ks ⟨2, ((j + 1 : Nat) : Int)⟩ = trivK m.ks ((j + 1 : Nat) : Int) m.ks.length := rfl
    have h2 : cB m (j + 1) = decide (consM m ⟨2, ((j + 1 : Nat) : Int)⟩) := by unfold cB; simp
    rw [h1, triv_nat m.ks (j + 1) (by omega) _ hk, h2, Bool.and_comm]
  have e3 : kpO s ⟨2, ((j + 1 : Nat) : Int)⟩ = evB s (j + 1) := by
    rw [← evn_nat s hs (j + 1) (by omega)]; rfl
  rw [e2, e3]
end Go.AM

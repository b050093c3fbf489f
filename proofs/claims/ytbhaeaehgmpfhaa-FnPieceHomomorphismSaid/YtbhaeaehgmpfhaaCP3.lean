/-
  CONTRACTS of functions of the program, and what they compute, by content.
-/
import Derived.Test.YtbhaeaehgmpfhaaCP2
set_option linter.unusedVariables false
set_option linter.unusedSimpArgs false
namespace Go.AM
/-! texts -/
theorem stsize (l : List UInt8) : ByteArray.size ⟨l.toArray⟩ = l.length := rfl
theorem stget (l : List UInt8) (i : Nat) (d : UInt8) : (ByteArray.mk l.toArray).data.toList.getD i d = l.getD i d := rfl
theorem sttl (l : List UInt8) : (ByteArray.mk l.toArray).toList = l := by simp
theorem stapp (a b : List UInt8) : (ByteArray.mk a.toArray) ++ (ByteArray.mk b.toArray) = ⟨(a ++ b).toArray⟩ := by
  apply ByteArray.ext; simp
theorem stext (l : List UInt8) (i j : Nat) : (ByteArray.mk l.toArray).extract i j = ⟨((l.take j).drop i).toArray⟩ := by
  apply ByteArray.ext; simp [List.drop_take]
def lettersOk (l : List UInt8) : Prop := (∀ b ∈ l, 65 ≤ b.toNat ∧ b.toNat ≤ 90) ∧ l.Nodup
instance (l : List UInt8) : Decidable (lettersOk l) := by unfold lettersOk; infer_instance
def namesOk (l : List UInt8) : Prop := lettersOk l ∧ 1 ≤ l.length ∧ l.length ≤ 8
instance (l : List UInt8) : Decidable (namesOk l) := by unfold namesOk; infer_instance
structure Model where
  ks : List Kind
  nm : List UInt8
  mv : List (List Twist)
  deriving DecidableEq
abbrev tssl (l : List (List Twist)) : AV := .sl 1 (l.map tsl)
abbrev tsst (l : List (List Twist)) : AV := .tr 1 (l.map ttr)
theorem tsspure (l : List (List Twist)) : AV.pureL (l.map ttr) = true := pureL_map _ (fun t => by simp [AV.pure, tpure]) l
def Model.sl (m : Model) : AV := .agg [ksl m.ks, .st m.nm, tssl m.mv]
def Model.tr (m : Model) : AV := .agg [ktr m.ks, .st m.nm, tsst m.mv]
def modelOk (m : Model) : Prop := kindsOk m.ks ∧ namesOk m.nm ∧ m.nm.length = m.mv.length ∧ ∀ s ∈ m.mv, psOk m.ks s
instance (m : Model) : Decidable (modelOk m) := by unfold modelOk; infer_instance
/-! what is done with piece states, plainly -/
theorem runI_succ (k : Int) (n : Nat) : runI k (n + 1) = runI k n ++ [k + n] := by simp [runI, List.range_succ]
theorem runI_zero (k : Int) : runI k 0 = [] := rfl
def solvedK (k : Kind) : Twist := ⟨runI 0 k.c.toNat, List.replicate k.c.toNat 0⟩
def solvedR (ks : List Kind) : List Twist := if kindsOk ks then ks.map solvedK else []
theorem map_take_succ {α β : Type} (f : α → β) (l : List α) (i : Nat) (d : α) (h : i < l.length) : (l.take (i + 1)).map f = (l.take i).map f ++ [f (l.getD i d)] := by
  rw [take_succ_eq l i d h, List.map_append]; rfl
def compI (p q : List Int) : List Int := p.map fun x => q.getD x.toNat 0
/-- a list's places written one by one: where p says, what v says -/
def scat {α : Type} (base : List α) (p : List Int) (v : Nat → α) : Nat → List α
  | 0 => base
  | i + 1 => (scat base p v i).set (p.getD i 0).toNat (v i)
theorem scat_len {α : Type} (base : List α) (p : List Int) (v : Nat → α) : ∀ i, (scat base p v i).length = base.length
  | 0 => rfl
  | i + 1 => by rw [scat, List.length_set, scat_len base p v i]
theorem perm_inj {p : List Int} (h : isPerm p) {i j : Nat} (hi : i < p.length) (hj : j < p.length) (e : p.getD i 0 = p.getD j 0) : i = j := by
  rw [getD_eq _ _ _ hi, getD_eq _ _ _ hj] at e
  exact (List.getElem_inj h.2.2).1 e
theorem perm_get {p : List Int} (h : isPerm p) {i : Nat} (hi : i < p.length) : 0 ≤ p.getD i 0 ∧ p.getD i 0 < p.length := h.2.1 _ (mem_getD p i 0 hi)
theorem scat_get {α : Type} (base : List α) (p : List Int) (v : Nat → α) (d : α) (h : isPerm p) (hb : base.length = p.length) : ∀ m, m ≤ p.length → ∀ i, i < m → (scat base p v m).getD (p.getD i 0).toNat d = v i
  | m + 1, hm, i, hi => by
    have hg := perm_get h (show m < p.length by omega)
    have hl := scat_len base p v m
    rw [scat]
    by_cases e : i = m
    · subst e; rw [getD_set_same _ _ _ _ (by omega)]
    · rw [getD_set_ne _ _ _ _ _ (fun q => e (perm_inj h (by omega) (by omega) (by have := perm_get h (show i < p.length by omega); omega))), scat_get base p v d h hb m (by omega) i (by omega)]
theorem perm_surj {p : List Int} (h : isPerm p) (j : Nat) (hj : j < p.length) : ∃ i, i < p.length ∧ (p.getD i 0).toNat = j := by
  have hlt : ∀ x ∈ p.map Int.toNat, x < p.length := by
    intro x hx
    obtain ⟨y, hy, rfl⟩ := List.mem_map.1 hx
    have := h.2.1 y hy; omega
  have hn : (p.map Int.toNat).Nodup := by
    rw [List.Nodup, List.pairwise_map]
    refine List.Pairwise.imp_of_mem ?_ h.2.2
    intro a b ha hb hab e
    have := h.2.1 a ha; have := h.2.1 b hb; exact hab (by omega)
  have := (nodup_iff_all _ _ (by simp) hlt).1 hn j hj
  obtain ⟨y, hy, e⟩ := List.mem_map.1 this
  obtain ⟨i, hi, rfl⟩ := List.getElem_of_mem hy
  exact ⟨i, hi, by rw [getD_eq _ _ _ hi]; exact e⟩
theorem ext_getD {α : Type} {a b : List α} (d : α) (hl : a.length = b.length) (h : ∀ i, i < a.length → a.getD i d = b.getD i d) : a = b := by
  apply List.ext_getElem hl
  intro i h1 h2
  have := h i h1
  rwa [getD_eq _ _ _ h1, getD_eq _ _ _ h2] at this
def invI (p : List Int) : List Int := scat (List.replicate p.length 0) p (fun i => (i : Int)) p.length
def compB (o : Int) (a b : Twist) (i : Nat) : Int := (a.by'.getD i 0 + b.by'.getD (a.to.getD i 0).toNat 0).tmod o
def compT (o : Int) (a b : Twist) : Twist := ⟨compI a.to b.to, (List.range a.to.length).map (compB o a b)⟩
def compS (ks : List Kind) (a b : List Twist) : List Twist := (List.range ks.length).map fun n => compT (ks.getD n default).o (a.getD n default) (b.getD n default)
def invB (o : Int) (a : Twist) (i : Nat) : Int := (o - a.by'.getD i 0).tmod o
def invT (o : Int) (a : Twist) : Twist := ⟨invI a.to, scat (List.replicate a.to.length 0) a.to (invB o a) a.to.length⟩
def invS (ks : List Kind) (a : List Twist) : List Twist := (List.range ks.length).map fun n => invT (ks.getD n default).o (a.getD n default)
def cellL (base o to by' : Int) (j : Nat) : List Int := (List.range j).map fun (i : Nat) => base + to * o + ((i : Int) + by').tmod o
theorem cellL_succ (base o to by' : Int) (j : Nat) : cellL base o to by' (j + 1) = cellL base o to by' j ++ [base + to * o + ((j : Int) + by').tmod o] := by simp [cellL, List.range_succ]
theorem cellL_len (base o to by' : Int) (j : Nat) : (cellL base o to by' j).length = j := by simp [cellL]
def rowL (base o : Int) (t : Twist) : Nat → List Int
  | 0 => []
  | i + 1 => rowL base o t i ++ cellL base o (t.to.getD i 0) (t.by'.getD i 0) o.toNat
theorem rowL_len (base o : Int) (t : Twist) : ∀ i, (rowL base o t i).length = i * o.toNat
  | 0 => by simp [rowL]
  | i + 1 => by rw [rowL, List.length_append, rowL_len base o t i, cellL_len, Nat.succ_mul]
def permL (ks : List Kind) (s : List Twist) : Nat → List Int
  | 0 => []
  | n + 1 => permL ks s n ++ rowL (permL ks s n).length (ks.getD n default).o (s.getD n default) (ks.getD n default).c.toNat
theorem permL_len (ks : List Kind) (s : List Twist) (h : ∀ k ∈ ks, kOk k) : ∀ n, n ≤ ks.length → ((permL ks s n).length : Int) = facets (ks.take n)
  | 0, _ => by simp [permL, facets]
  | n + 1, hn => by
    have hk := h _ (mem_getD ks n default (by omega))
    rw [permL, List.length_append, rowL_len, facets_take ks n (by omega), Int.natCast_add, permL_len ks s h n (by omega), Int.natCast_mul, Int.toNat_of_nonneg (by have := hk.1; omega), Int.toNat_of_nonneg (by have := hk.2; omega)]
def permOf (ks : List Kind) (s : List Twist) : List Int := permL ks s ks.length
theorem range_succ_map {α : Type} (f : Nat → α) (n : Nat) : (List.range (n + 1)).map f = (List.range n).map f ++ [f n] := by simp [List.range_succ]
theorem range_map_len {α : Type} (f : Nat → α) (n : Nat) : ((List.range n).map f).length = n := by simp
theorem range_map_get {α : Type} (f : Nat → α) (n i : Nat) (d : α) (h : i < n) : ((List.range n).map f).getD i d = f i := by simp [List.getD, h]
theorem map_getD {α β : Type} (f : α → β) (l : List α) (i : Nat) (d : α) (d' : β) (h : i < l.length) : (l.map f).getD i d' = f (l.getD i d) := by simp [List.getD, h]
theorem mixL_self {α : Type} (a b : List α) (n : Nat) (d : α) (h : a.length = b.length) (hn : n < b.length) : (mixL a b n).set n (b.getD n d) = mixL a b n := by
  rw [← mixL_get a b n d h hn]
  apply List.ext_getElem?
  intro i
  rw [List.getElem?_set]
  split
  · rename_i e; subst e
    have hl := mixL_len a b n h
    rw [if_pos (by omega), getD_eq _ _ _ (by omega), List.getElem?_eq_getElem (by omega)]
  · rfl
theorem tw_get {ks : List Kind} {s : List Twist} (h : psOk ks s) {n : Nat} (hn : n < ks.length) : twOk (ks.getD n default) (s.getD n default) := h.2.2 n hn
theorem twOk_facts {k : Kind} {t : Twist} (h : twOk k t) (hk : kOk k) : ∃ c o : Nat, k.c = c ∧ k.o = o ∧ t.to.length = c ∧ t.by'.length = c ∧ 1 ≤ c ∧ c ≤ 20 ∧ 1 ≤ o ∧ o ≤ 20 := by
  obtain ⟨h1, h2, h3, h4⟩ := h
  obtain ⟨h5, h6⟩ := hk
  exact ⟨t.to.length, k.o.toNat, h1.symm, by omega, rfl, by omega, by omega, by omega, by omega, by omega⟩
theorem to_get {k : Kind} {t : Twist} (h : twOk k t) {i : Nat} (hi : i < t.to.length) : 0 ≤ t.to.getD i 0 ∧ t.to.getD i 0 < t.to.length := h.2.2.1.2.1 _ (mem_getD t.to i 0 hi)
theorem by_get {k : Kind} {t : Twist} (h : twOk k t) {i : Nat} (hi : i < t.by'.length) : 0 ≤ t.by'.getD i 0 ∧ t.by'.getD i 0 < k.o := h.2.2.2 _ (mem_getD t.by' i 0 hi)
theorem compI_len (p q : List Int) : (compI p q).length = p.length := by simp [compI]
theorem compI_get (p q : List Int) (i : Nat) (h : i < p.length) : (compI p q).getD i 0 = q.getD (p.getD i 0).toNat 0 := by simp [compI, List.getD, h]
theorem compS_len (ks : List Kind) (a b : List Twist) : (compS ks a b).length = ks.length := by simp [compS]
theorem invI_len (p : List Int) : (invI p).length = p.length := by rw [invI, scat_len]; simp
theorem invS_len (ks : List Kind) (a : List Twist) : (invS ks a).length = ks.length := by simp [invS]
end Go.AM

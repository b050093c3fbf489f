/-
  CONTRACTS of functions of the program, and what they compute, by content.
-/
import Derived.Test.YtbhaeaehgmpfhaaCP2
set_option linter.unusedVariables false
set_option linter.unusedSimpArgs false
namespace Go.AM
/-! texts -/
theorem stsize (l : List UInt8) : ByteArray.size ⟨l.toArray⟩ = l.length := rfl
theorem stget (l : List UInt8) (i : Nat) (d : UInt8) : (ByteArray.mk l.toArray).data.toList.getD i d = l.getD i d := rfl
theorem sttl (l : List UInt8) : (ByteArray.mk l.toArray).toList = l := by simp
theorem stapp (a b : List UInt8) : (ByteArray.mk a.toArray) ++ (ByteArray.mk b.toArray) = ⟨(a ++ b).toArray⟩ := by
  apply ByteArray.ext; simp
theorem stext (l : List UInt8) (i j : Nat) : (ByteArray.mk l.toArray).extract i j = ⟨((l.take j).drop i).toArray⟩ := by
  apply ByteArray.ext; simp [List.drop_take]
theorem u8lt (b : UInt8) : b.toNat < 256 := UInt8.toNat_lt b
theorem u8eq {a b : UInt8} : ((a.toNat : Int) == (b.toNat : Int)) = decide (a = b) := by
  rw [Bool.eq_iff_iff, beq_iff_eq, decide_eq_true_iff]
  exact ⟨fun h => UInt8.toNat_inj.1 (by omega), fun h => by rw [h]⟩
/-- letters from A to Z, none twice -/
def lettersOk (l : List UInt8) : Prop := (∀ b ∈ l, 65 ≤ b.toNat ∧ b.toNat ≤ 90) ∧ l.Nodup
instance (l : List UInt8) : Decidable (lettersOk l) := by unfold lettersOk; infer_instance
def namesOk (l : List UInt8) : Prop := lettersOk l ∧ 1 ≤ l.length ∧ l.length ≤ 8
instance (l : List UInt8) : Decidable (namesOk l) := by unfold namesOk; infer_instance
structure Model where
  ks : List Kind
  nm : List UInt8
  mv : List (List Twist)
  deriving DecidableEq
abbrev tssl (l : List (List Twist)) : AV := .sl 1 (l.map tsl)
abbrev tsst (l : List (List Twist)) : AV := .tr 1 (l.map ttr)
theorem tsspure (l : List (List Twist)) : AV.pureL (l.map ttr) = true := pureL_map _ (fun t => by simp [AV.pure, tpure]) l
def Model.sl (m : Model) : AV := .agg [ksl m.ks, .st m.nm, tssl m.mv]
def Model.tr (m : Model) : AV := .agg [ktr m.ks, .st m.nm, tsst m.mv]
def modelOk (m : Model) : Prop := kindsOk m.ks ∧ namesOk m.nm ∧ m.nm.length = m.mv.length ∧ ∀ s ∈ m.mv, psOk m.ks s
instance (m : Model) : Decidable (modelOk m) := by unfold modelOk; infer_instance
/-! what is done with piece states, plainly -/
theorem runI_succ (k : Int) (n : Nat) : runI k (n + 1) = runI k n ++ [k + n] := by simp [runI, List.range_succ]
def solvedK (k : Kind) : Twist := ⟨runI 0 k.c.toNat, List.replicate k.c.toNat 0⟩
def solvedR (ks : List Kind) : List Twist := if kindsOk ks then ks.map solvedK else []
def compI (p q : List Int) : List Int := p.map fun x => q.getD x.toNat 0
/-- a list's places written one by one: where p says, what v says -/
def scat {α : Type} (base : List α) (p : List Int) (v : Nat → α) : Nat → List α
  | 0 => base
  | i + 1 => (scat base p v i).set (p.getD i 0).toNat (v i)
theorem scat_len {α : Type} (base : List α) (p : List Int) (v : Nat → α) : ∀ i, (scat base p v i).length = base.length
  | 0 => rfl
  | i + 1 => by rw [scat, List.length_set, scat_len base p v i]
theorem perm_inj {p : List Int} (h : isPerm p) {i j : Nat} (hi : i < p.length) (hj : j < p.length) (e : p.getD i 0 = p.getD j 0) : i = j := by
  rw [getD_eq _ _ _ hi, getD_eq _ _ _ hj] at e
  exact (List.getElem_inj h.2.2).1 e
theorem perm_get {p : List Int} (h : isPerm p) {i : Nat} (hi : i < p.length) : 0 ≤ p.getD i 0 ∧ p.getD i 0 < p.length := h.2.1 _ (mem_getD p i 0 hi)
theorem scat_get {α : Type} (base : List α) (p : List Int) (v : Nat → α) (d : α) (h : isPerm p) (hb : base.length = p.length) : ∀ m, m ≤ p.length → ∀ i, i < m → (scat base p v m).getD (p.getD i 0).toNat d = v i
  | m + 1, hm, i, hi => by
    have hg := perm_get h (show m < p.length by omega)
    have hl := scat_len base p v m
    rw [scat]
    by_cases e : i = m
    · subst e; rw [getD_set_same _ _ _ _ (by omega)]
    · rw [getD_set_ne _ _ _ _ _ (fun q => e (perm_inj h (by omega) (by omega) (by have := perm_get h (show i < p.length by omega); omega))), scat_get base p v d h hb m (by omega) i (by omega)]
theorem perm_surj {p : List Int} (h : isPerm p) (j : Nat) (hj : j < p.length) : ∃ i, i < p.length ∧ (p.getD i 0).toNat = j := by
  have hlt : ∀ x ∈ p.map Int.toNat, x < p.length := by
    intro x hx
    obtain ⟨y, hy, rfl⟩ := List.mem_map.1 hx
    have := h.2.1 y hy; omega
  have hn : (p.map Int.toNat).Nodup := by
    rw [List.Nodup, List.pairwise_map]
    refine List.Pairwise.imp_of_mem ?_ h.2.2
    intro a b ha hb hab e
    have := h.2.1 a ha; have := h.2.1 b hb; exact hab (by omega)
  have := (nodup_iff_all _ _ (by simp) hlt).1 hn j hj
  obtain ⟨y, hy, e⟩ := List.mem_map.1 this
  obtain ⟨i, hi, rfl⟩ := List.getElem_of_mem hy
  exact ⟨i, hi, by rw [getD_eq _ _ _ hi]; exact e⟩
theorem ext_getD {α : Type} {a b : List α} (d : α) (hl : a.length = b.length) (h : ∀ i, i < a.length → a.getD i d = b.getD i d) : a = b := by
  apply List.ext_getElem hl
  intro i h1 h2
  have := h i h1
  rwa [getD_eq _ _ _ h1, getD_eq _ _ _ h2] at this
def invI (p : List Int) : List Int := scat (List.replicate p.length 0) p (fun i => (i : Int)) p.length
def compB (o : Int) (a b : Twist) (i : Nat) : Int := (a.by'.getD i 0 + b.by'.getD (a.to.getD i 0).toNat 0).tmod o
def compT (o : Int) (a b : Twist) : Twist := ⟨compI a.to b.to, (List.range a.to.length).map (compB o a b)⟩
def compS (ks : List Kind) (a b : List Twist) : List Twist := (List.range ks.length).map fun n => compT (ks.getD n default).o (a.getD n default) (b.getD n default)
def invB (o : Int) (a : Twist) (i : Nat) : Int := (o - a.by'.getD i 0).tmod o
def invT (o : Int) (a : Twist) : Twist := ⟨invI a.to, scat (List.replicate a.to.length 0) a.to (invB o a) a.to.length⟩
def invS (ks : List Kind) (a : List Twist) : List Twist := (List.range ks.length).map fun n => invT (ks.getD n default).o (a.getD n default)
def cellL (base o to by' : Int) (j : Nat) : List Int := (List.range j).map fun (i : Nat) => base + to * o + ((i : Int) + by').tmod o
def rowL (base o : Int) (t : Twist) : Nat → List Int
  | 0 => []
  | i + 1 => rowL base o t i ++ cellL base o (t.to.getD i 0) (t.by'.getD i 0) o.toNat
def permL (ks : List Kind) (s : List Twist) : Nat → List Int
  | 0 => []
  | n + 1 => permL ks s n ++ rowL (permL ks s n).length (ks.getD n default).o (s.getD n default) (ks.getD n default).c.toNat
def permOf (ks : List Kind) (s : List Twist) : List Int := permL ks s ks.length
theorem range_succ_map {α : Type} (f : Nat → α) (n : Nat) : (List.range (n + 1)).map f = (List.range n).map f ++ [f n] := by simp [List.range_succ]
theorem range_map_get {α : Type} (f : Nat → α) (n i : Nat) (d : α) (h : i < n) : ((List.range n).map f).getD i d = f i := by simp [List.getD, h]
theorem compI_len (p q : List Int) : (compI p q).length = p.length := by simp [compI]
theorem compI_get (p q : List Int) (i : Nat) (h : i < p.length) : (compI p q).getD i 0 = q.getD (p.getD i 0).toNat 0 := by simp [compI, List.getD, h]
theorem invI_len (p : List Int) : (invI p).length = p.length := by rw [invI, scat_len]; simp
end Go.AM

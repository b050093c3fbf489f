/-
  CONTRACTS of functions of the program, and what they compute, by content.
-/
import Derived.Test.YtjlnccjhgngnoaaCW1
import Derived.Test.YtjlnccjhgngnoaaM2SC
set_option linter.unusedVariables false
set_option linter.unusedSimpArgs false
namespace Go.AM
namespace Draws
open Go.Proofs
theorem opens_u8 {P : Program} {t : TypeId} (ht : P.underlying t = some (.int .u8)) : Opens P t UInt8 (fun b => [.u8 b.toNat]) (fun _ => True) := by
  intro H enc w sp held fuel cs x h
  obtain ⟨n, rfl, _, hw⟩ := DataW.trod_int ht h
  simp only [Lit.wf, Bool.and_eq_true, decide_eq_true_eq] at hw
  have e1 : IntKind.u8.min = 0 := by decide
  have e2 : IntKind.u8.max = 255 := by decide
  rw [e1, e2] at hw
  refine ⟨UInt8.ofNat n.toNat, trivial, rfl, fun j hj hk => ?_⟩
  have : j = 0 := by simp at hj; omega
  subst this
  have e : ((UInt8.ofNat n.toNat).toNat : Int) = n := by rw [UInt8.toNat_ofNat']; omega
  simp only [List.getElem_cons_zero]
  rw [e]
  exact ⟨.v _, rfl⟩
theorem openByte : Opens Try.prog 5 UInt8 (fun b => [AV.u8 b.toNat]) (fun _ => True) := opens_u8 Try.underlying5
theorem openBytes : Opens Try.prog 44 (List UInt8) (fun l => [AV.sl 1 (l.map fun x => AV.u8 x.toNat)]) (fun l => l.length ≤ 9223372036854775807 ∧ ∀ b ∈ l, True) :=
  opens_slice Try.underlying44 (by kernel_rfl) (by decide) (fun x : UInt8 => AV.u8 x.toNat) (fun _ => rfl) openByte
end Draws
end Go.AM

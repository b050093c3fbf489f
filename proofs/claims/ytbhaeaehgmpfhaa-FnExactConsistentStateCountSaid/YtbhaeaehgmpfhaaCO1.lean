/-
  CONTRACTS of functions of the program, and what they compute, by content.
-/
import Derived.Test.YtbhaeaehgmpfhaaM2Facts
import Derived.Test.YtbhaeaehgmpfhaaCP3
import Derived.Test.YtbhaeaehgmpfhaaM2SC
set_option linter.unusedVariables false
set_option linter.unusedSimpArgs false
namespace Go.AM
open Go.Proofs
theorem openInt : Opens Try.prog 2 Int (fun n => [AV.i64 n]) intOk := opens_int Try.underlying2
theorem openInts : Opens Try.prog 25 (List Int) (fun l => [AV.sl 1 (l.map AV.i64)]) (fun l => l.length ≤ 9223372036854775807 ∧ ∀ b ∈ l, intOk b) :=
  opens_slice Try.underlying25 (by kernel_rfl) (by decide) AV.i64 (fun _ => rfl) openInt
theorem openKind : Opens Try.prog 162 Kind (fun k => [AV.i64 k.c, AV.i64 k.o]) (fun k => intOk k.c ∧ intOk k.o) :=
  Opens.map (opens_struct Try.underlying162 (by kernel_rfl)
    (opensFs_cons 2 1 (by rfl) (by kernel_rfl) (by rfl) (by decide) openInt
    (opensFs_cons 2 1 (by rfl) (by kernel_rfl) (by rfl) (by decide) openInt opensFs_nil)))
    (fun p => Kind.mk p.1 p.2.1) (fun _ => rfl) (fun _ h => ⟨h.1, h.2.1⟩)
theorem openKinds : Opens Try.prog 59 (List Kind) (fun ks => [ksl ks]) (fun ks => ks.length ≤ 9223372036854775807 ∧ ∀ k ∈ ks, intOk k.c ∧ intOk k.o) :=
  opens_slice Try.underlying59 (by kernel_rfl) (by decide) Kind.av (fun _ => rfl) openKind
theorem openTwist : Opens Try.prog 182 Twist (fun t => [AV.sl 1 (t.to.map AV.i64), AV.sl 1 (t.by'.map AV.i64)]) (fun t => t.to.length ≤ 9223372036854775807 ∧ t.by'.length ≤ 9223372036854775807 ∧ (∀ b ∈ t.to, intOk b) ∧ ∀ b ∈ t.by', intOk b) :=
  Opens.map (opens_struct Try.underlying182 (by kernel_rfl)
    (opensFs_cons 25 1 (by rfl) (by kernel_rfl) (by rfl) (by decide) openInts
    (opensFs_cons 25 1 (by rfl) (by kernel_rfl) (by rfl) (by decide) openInts opensFs_nil)))
    (fun p => Twist.mk p.1 p.2.1) (fun _ => rfl) (fun _ h => ⟨h.1.1, h.2.1.1, h.1.2, h.2.1.2⟩)
theorem openTwists : Opens Try.prog 158 (List Twist) (fun ts => [tsl ts]) (fun ts => ts.length ≤ 9223372036854775807 ∧ ∀ t ∈ ts, t.to.length ≤ 9223372036854775807 ∧ t.by'.length ≤ 9223372036854775807 ∧ (∀ b ∈ t.to, intOk b) ∧ ∀ b ∈ t.by', intOk b) :=
  opens_slice Try.underlying158 (by kernel_rfl) (by decide) Twist.sl (fun _ => rfl) openTwist
theorem openString : Opens Try.prog 9 (List UInt8) (fun l => [AV.st l]) (fun l => l.length ≤ 9223372036854775807) := opens_string Try.underlying9
theorem openTwistss : Opens Try.prog 60 (List (List Twist)) (fun l => [tssl l]) (fun l => l.length ≤ 9223372036854775807 ∧ ∀ ts ∈ l, ts.length ≤ 9223372036854775807 ∧ ∀ t ∈ ts, t.to.length ≤ 9223372036854775807 ∧ t.by'.length ≤ 9223372036854775807 ∧ (∀ b ∈ t.to, intOk b) ∧ ∀ b ∈ t.by', intOk b) :=
  opens_slice Try.underlying60 (by kernel_rfl) (by decide) tsl (fun _ => rfl) openTwists
theorem openPieceModel : Opens Try.prog 62 Model (fun m => [ksl m.ks, .st m.nm, tssl m.mv]) (fun m => m.ks.length ≤ 9223372036854775807 ∧ m.nm.length ≤ 9223372036854775807 ∧ m.mv.length ≤ 9223372036854775807 ∧ ∀ s ∈ m.mv, s.length ≤ 9223372036854775807 ∧ ∀ t ∈ s, t.to.length ≤ 9223372036854775807 ∧ t.by'.length ≤ 9223372036854775807) :=
  Opens.map (opens_struct Try.underlying62 (by kernel_rfl)
    (opensFs_cons 59 1 (by rfl) (by kernel_rfl) (by rfl) (by decide) openKinds
    (opensFs_cons 9 1 (by rfl) (by kernel_rfl) (by rfl) (by decide) openString
    (opensFs_cons 60 1 (by rfl) (by kernel_rfl) (by rfl) (by decide) openTwistss opensFs_nil))))
    (fun p => Model.mk p.1 p.2.1 p.2.2.1) (fun _ => rfl) (fun _ h => ⟨h.1.1, h.2.1, h.2.2.1.1, fun s hs => ⟨(h.2.2.1.2 s hs).1, fun t ht => ⟨((h.2.2.1.2 s hs).2 t ht).1, ((h.2.2.1.2 s hs).2 t ht).2.1⟩⟩⟩)
end Go.AM

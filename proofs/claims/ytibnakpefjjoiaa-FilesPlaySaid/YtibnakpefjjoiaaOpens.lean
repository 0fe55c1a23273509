/- How a law's arguments are opened: what their elements are, and are good for. No law is proved here. -/
import Derived.Test.YtibnakpefjjoiaaOpenZ
import Derived.Test.YtibnakpefjjoiaaQ0
namespace Go.Proofs.Ytibnakpefjjoiaa.Q
open Go.RowKit Go.Proofs.YtibnakpefjjoiaaW.PrintWords
set_option linter.unusedVariables false
def good46 (x : S46) : Prop := (Lit.int .u8 x.f0).wf = true ∧ x.f1.size ≤ 140737488351232 ∧ x.f2.size ≤ 140737488351232 ∧ (x.f3.length ≤ 9223372036854775807 ∧ x.f3.length * Try.prog.bytesOf 5 ≤ 140737488351232 ∧ ∀ y ∈ x.f3, (Lit.int .u8 y).wf = true) ∧ (Lit.int .i64 x.f4).wf = true ∧ (x.f5.length ≤ 9223372036854775807 ∧ x.f5.length * Try.prog.bytesOf 3 ≤ 140737488351232 ∧ ∀ y ∈ x.f5, (Lit.int .i64 y).wf = true)
theorem opens46 : Opn.OpensZ Try.prog 46 k46 good46 :=
  Opn.OpensZ.struct (fun x : S46 => (x.f0, x.f1, x.f2, x.f3, x.f4, x.f5)) (fun x => ⟨x.1, x.2.1, x.2.2.1, x.2.2.2.1, x.2.2.2.2.1, x.2.2.2.2.2⟩) (fun _ => rfl) Try.underlying46 (by kernel_rfl) (Opn.OpensFZ.cons (by kernel_rfl) (by kernel_rfl) ((Opn.Opens.int Try.underlying5).z) (Opn.OpensFZ.cons (by kernel_rfl) (by kernel_rfl) (Opn.OpensZ.string Try.underlying9) (Opn.OpensFZ.cons (by kernel_rfl) (by kernel_rfl) (Opn.OpensZ.string Try.underlying9) (Opn.OpensFZ.cons (by kernel_rfl) (by kernel_rfl) (Opn.OpensZ.slice Try.underlying23 (by kernel_rfl) ((Opn.Opens.int Try.underlying5).z)) (Opn.OpensFZ.cons (by kernel_rfl) (by kernel_rfl) ((Opn.Opens.int Try.underlying3).z) (Opn.OpensFZ.one (by kernel_rfl) (Opn.OpensZ.slice Try.underlying43 (by kernel_rfl) ((Opn.Opens.int Try.underlying3).z))))))))
end Go.Proofs.Ytibnakpefjjoiaa.Q

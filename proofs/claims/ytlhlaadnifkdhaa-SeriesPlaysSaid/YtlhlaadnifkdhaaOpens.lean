/- How a law's arguments are opened: what their elements are, and are good for. No law is proved here. -/
import Derived.Test.YtlhlaadnifkdhaaOpen
import Derived.Test.YtlhlaadnifkdhaaQ0
namespace Go.Proofs.Ytlhlaadnifkdhaa.Q
open Go.RowKit Go.Proofs.YtlhlaadnifkdhaaW.PrintWords
set_option linter.unusedVariables false
def good31 (x : S31) : Prop := x.f0.size ≤ 9223372036854775807 ∧ x.f1.size ≤ 9223372036854775807
theorem opens31 : Opn.Opens Try.prog 31 k31 good31 :=
  Opn.Opens.struct (fun x : S31 => (x.f0, x.f1)) (fun x => ⟨x.1, x.2⟩) (fun _ => rfl) Try.underlying31 (by kernel_rfl) (Opn.OpensF.cons (by kernel_rfl) (by kernel_rfl) (Opn.Opens.string Try.underlying9) (Opn.OpensF.one (by kernel_rfl) (Opn.Opens.string Try.underlying9)))
def good26 (x : S26) : Prop := (Lit.int .i64 x.f0).wf = true ∧ (Lit.int .i64 x.f1).wf = true
theorem opens26 : Opn.Opens Try.prog 26 k26 good26 :=
  Opn.Opens.struct (fun x : S26 => (x.f0, x.f1)) (fun x => ⟨x.1, x.2⟩) (fun _ => rfl) Try.underlying26 (by kernel_rfl) (Opn.OpensF.cons (by kernel_rfl) (by kernel_rfl) (Opn.Opens.int Try.underlying3) (Opn.OpensF.one (by kernel_rfl) (Opn.Opens.int Try.underlying2)))
def good46 (x : S46) : Prop := True ∧ (x.f1.length ≤ 9223372036854775807 ∧ ∀ y ∈ x.f1, good31 y) ∧ good26 x.f2
theorem opens46 : Opn.Opens Try.prog 46 k46 good46 :=
  Opn.Opens.struct (fun x : S46 => (x.f0, x.f1, x.f2)) (fun x => ⟨x.1, x.2.1, x.2.2⟩) (fun _ => rfl) Try.underlying46 (by kernel_rfl) (Opn.OpensF.cons (by kernel_rfl) (by kernel_rfl) (Opn.Opens.bool Try.underlying4) (Opn.OpensF.cons (by kernel_rfl) (by kernel_rfl) (Opn.Opens.slice Try.underlying32 (by kernel_rfl) opens31) (Opn.OpensF.one (by kernel_rfl) opens26)))
def good40 (x : S40) : Prop := x.f0.size ≤ 9223372036854775807 ∧ (Lit.int .u8 x.f1).wf = true ∧ x.f2.size ≤ 9223372036854775807
theorem opens40 : Opn.Opens Try.prog 40 k40 good40 :=
  Opn.Opens.struct (fun x : S40 => (x.f0, x.f1, x.f2)) (fun x => ⟨x.1, x.2.1, x.2.2⟩) (fun _ => rfl) Try.underlying40 (by kernel_rfl) (Opn.OpensF.cons (by kernel_rfl) (by kernel_rfl) (Opn.Opens.string Try.underlying9) (Opn.OpensF.cons (by kernel_rfl) (by kernel_rfl) (Opn.Opens.int Try.underlying5) (Opn.OpensF.one (by kernel_rfl) (Opn.Opens.string Try.underlying9))))
end Go.Proofs.Ytlhlaadnifkdhaa.Q

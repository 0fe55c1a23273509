/- How a law's arguments are opened: what their elements are, and are good for. No law is proved here. -/
import Derived.Test.YtigdpkofceghlaaOpen
import Derived.Test.YtigdpkofceghlaaActs
import Derived.Test.YtigdpkofceghlaaQ0
namespace Go.Proofs.Ytigdpkofceghlaa.Q
open Go.RowKit Go.Proofs.YtigdpkofceghlaaW.PrintWords
set_option linter.unusedVariables false
def good29 (x : S29) : Prop := (Lit.int .u32 x.f0).wf = true ∧ (Lit.int .i64 x.f1).wf = true
theorem opens29 : Opn.Opens Try.prog 29 k29 good29 :=
  Opn.Opens.struct (fun x : S29 => (x.f0, x.f1)) (fun x => ⟨x.1, x.2⟩) (fun _ => rfl) Try.underlying29 (by kernel_rfl) (Opn.OpensF.cons (by kernel_rfl) (by kernel_rfl) (Opn.Opens.int Try.underlying27) (Opn.OpensF.one (by kernel_rfl) (Opn.Opens.int Try.underlying3)))
def good49 (x : S49) : Prop := (Lit.int .i64 x.f0).wf = true ∧ good29 x.f1
theorem opens49 : Opn.Opens Try.prog 49 k49 good49 :=
  Opn.Opens.struct (fun x : S49 => (x.f0, x.f1)) (fun x => ⟨x.1, x.2⟩) (fun _ => rfl) Try.underlying49 (by kernel_rfl) (Opn.OpensF.cons (by kernel_rfl) (by kernel_rfl) (Opn.Opens.int Try.underlying3) (Opn.OpensF.one (by kernel_rfl) opens29))
end Go.Proofs.Ytigdpkofceghlaa.Q

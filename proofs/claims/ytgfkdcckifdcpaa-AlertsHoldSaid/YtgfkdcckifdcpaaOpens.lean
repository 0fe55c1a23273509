/- How a law's arguments are opened: what their elements are, and are good for. No law is proved here. -/
import Derived.Test.YtgfkdcckifdcpaaOpen
import Derived.Test.YtgfkdcckifdcpaaQ0
namespace Go.Proofs.Ytgfkdcckifdcpaa.Q
open Go.RowKit Go.Proofs.YtgfkdcckifdcpaaW.PrintWords
set_option linter.unusedVariables false
def good32 (x : S32) : Prop := (Lit.int .i64 x.f0).wf = true ∧ (Lit.int .i64 x.f1).wf = true ∧ (Lit.int .i64 x.f2).wf = true
theorem opens32 : Opn.Opens Try.prog 32 k32 good32 :=
  Opn.Opens.struct (fun x : S32 => (x.f0, x.f1, x.f2)) (fun x => ⟨x.1, x.2.1, x.2.2⟩) (fun _ => rfl) Try.underlying32 (by kernel_rfl) (Opn.OpensF.cons (by kernel_rfl) (by kernel_rfl) (Opn.Opens.int Try.underlying3) (Opn.OpensF.cons (by kernel_rfl) (by kernel_rfl) (Opn.Opens.int Try.underlying3) (Opn.OpensF.one (by kernel_rfl) (Opn.Opens.int Try.underlying3))))
end Go.Proofs.Ytgfkdcckifdcpaa.Q

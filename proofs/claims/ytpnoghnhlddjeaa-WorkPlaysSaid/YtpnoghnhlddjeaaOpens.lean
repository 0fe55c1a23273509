/- How a law's arguments are opened: what their elements are, and are good for. No law is proved here. -/
import Derived.Test.YtpnoghnhlddjeaaOpen
import Derived.Test.YtpnoghnhlddjeaaActs
import Derived.Test.YtpnoghnhlddjeaaQ0
namespace Go.Proofs.Ytpnoghnhlddjeaa.Q
open Go.RowKit Go.Proofs.YtpnoghnhlddjeaaW.PrintWords
set_option linter.unusedVariables false
def good31 (x : S31) : Prop := (Lit.int .u32 x.f0).wf = true ∧ (Lit.int .i64 x.f1).wf = true
theorem opens31 : Opn.Opens Try.prog 31 k31 good31 :=
  Opn.Opens.struct (fun x : S31 => (x.f0, x.f1)) (fun x => ⟨x.1, x.2⟩) (fun _ => rfl) Try.underlying31 (by kernel_rfl) (Opn.OpensF.cons (by kernel_rfl) (by kernel_rfl) (Opn.Opens.int Try.underlying29) (Opn.OpensF.one (by kernel_rfl) (Opn.Opens.int Try.underlying3)))
def good46 (x : S46) : Prop := (Lit.int .u8 x.f0).wf = true ∧ good31 x.f1 ∧ (Lit.int .i64 x.f2).wf = true
theorem opens46 : Opn.Opens Try.prog 46 k46 good46 :=
  Opn.Opens.struct (fun x : S46 => (x.f0, x.f1, x.f2)) (fun x => ⟨x.1, x.2.1, x.2.2⟩) (fun _ => rfl) Try.underlying46 (by kernel_rfl) (Opn.OpensF.cons (by kernel_rfl) (by kernel_rfl) (Opn.Opens.int Try.underlying5) (Opn.OpensF.cons (by kernel_rfl) (by kernel_rfl) opens31 (Opn.OpensF.one (by kernel_rfl) (Opn.Opens.int Try.underlying3))))
end Go.Proofs.Ytpnoghnhlddjeaa.Q

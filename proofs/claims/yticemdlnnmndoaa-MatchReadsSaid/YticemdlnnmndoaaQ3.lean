/- Functions of the program as plain Lean functions, each with the proof that its call comes to just these answers: written by a program of this session (wip/tools/printg.py over the kit's print) for this claim. -/
import Derived.Test.YticemdlnnmndoaaQ0
namespace Go.Proofs.Yticemdlnnmndoaa.Q
open Go.RowKit Go.Proofs.YticemdlnnmndoaaW.PrintWords Go.Proofs.YticemdlnnmndoaaW.PrintLast Go.Proofs.YticemdlnnmndoaaW.PrintMore
attribute [local go_sem] Opn.str_leq Opn.str_gtr Opn.str_geq max2_int min2_int max_two min_two max_three min_three max_four min_four   -- for this text's walks alone
set_option linter.unusedVariables false
set_option linter.unusedSimpArgs false

def good30 (x : S30) : Prop := x.f0.size ≤ 9223372036854775807 ∧ (Lit.int .u8 x.f1).wf = true ∧ x.f2.size ≤ 9223372036854775807
theorem opens30 : Opn.Opens Try.prog 30 k30 good30 :=
  Opn.Opens.struct (fun x : S30 => (x.f0, x.f1, x.f2)) (fun x => ⟨x.1, x.2.1, x.2.2⟩) (fun _ => rfl) Try.underlying30 (by kernel_rfl) (Opn.OpensF.cons (by kernel_rfl) (by kernel_rfl) (Opn.Opens.string Try.underlying9) (Opn.OpensF.cons (by kernel_rfl) (by kernel_rfl) (Opn.Opens.int Try.underlying5) (Opn.OpensF.one (by kernel_rfl) (Opn.Opens.string Try.underlying9))))

def good44 (x : S44) : Prop := x.f0.size ≤ 9223372036854775807 ∧ x.f1.size ≤ 9223372036854775807
theorem opens44 : Opn.Opens Try.prog 44 k44 good44 :=
  Opn.Opens.struct (fun x : S44 => (x.f0, x.f1)) (fun x => ⟨x.1, x.2⟩) (fun _ => rfl) Try.underlying44 (by kernel_rfl) (Opn.OpensF.cons (by kernel_rfl) (by kernel_rfl) (Opn.Opens.string Try.underlying9) (Opn.OpensF.one (by kernel_rfl) (Opn.Opens.string Try.underlying9)))

end Go.Proofs.Yticemdlnnmndoaa.Q

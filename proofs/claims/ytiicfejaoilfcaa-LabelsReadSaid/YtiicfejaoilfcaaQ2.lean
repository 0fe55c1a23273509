/- Functions of the program as plain Lean functions, each with the proof that its call comes to just these answers: written by a program of this session (wip/tools/printg.py over the kit's print) for this claim. -/
import Derived.Test.YtiicfejaoilfcaaQ0
namespace Go.Proofs.Ytiicfejaoilfcaa.Q
open Go.RowKit Go.Proofs.YtiicfejaoilfcaaW.PrintWords Go.Proofs.YtiicfejaoilfcaaW.PrintLast Go.Proofs.YtiicfejaoilfcaaW.PrintMore
attribute [local go_sem] Opn.str_leq Opn.str_gtr Opn.str_geq max2_int min2_int max_two min_two max_three min_three max_four min_four   -- for this text's walks alone
set_option linter.unusedVariables false
set_option linter.unusedSimpArgs false

def good31 (x : S31) : Prop := x.f0.size ≤ 9223372036854775807 ∧ x.f1.size ≤ 9223372036854775807
theorem opens31 : Opn.Opens Try.prog 31 k31 good31 :=
  Opn.Opens.struct (fun x : S31 => (x.f0, x.f1)) (fun x => ⟨x.1, x.2⟩) (fun _ => rfl) Try.underlying31 (by kernel_rfl) (Opn.OpensF.cons (by kernel_rfl) (by kernel_rfl) (Opn.Opens.string Try.underlying9) (Opn.OpensF.one (by kernel_rfl) (Opn.Opens.string Try.underlying9)))

end Go.Proofs.Ytiicfejaoilfcaa.Q

/- Functions of the program as plain Lean functions, each with the proof that its call comes to just these answers: written by a program of this session (wip/tools/printg.py over the kit's print) for this claim. -/
import Derived.Test.YtgfkdcckifdcpaaQ0
namespace Go.Proofs.Ytgfkdcckifdcpaa.Q
open Go.RowKit Go.Proofs.YtgfkdcckifdcpaaW.PrintWords Go.Proofs.YtgfkdcckifdcpaaW.PrintLast Go.Proofs.YtgfkdcckifdcpaaW.PrintMore
attribute [local go_sem] Opn.str_leq Opn.str_gtr Opn.str_geq max2_int min2_int max_two min_two max_three min_three max_four min_four   -- for this text's walks alone
set_option linter.unusedVariables false
set_option linter.unusedSimpArgs false

def good32 (x : S32) : Prop := (Lit.int .i64 x.f0).wf = true ∧ (Lit.int .i64 x.f1).wf = true ∧ (Lit.int .i64 x.f2).wf = true
theorem opens32 : Opn.Opens Try.prog 32 k32 good32 :=
  Opn.Opens.struct (fun x : S32 => (x.f0, x.f1, x.f2)) (fun x => ⟨x.1, x.2.1, x.2.2⟩) (fun _ => rfl) Try.underlying32 (by kernel_rfl) (Opn.OpensF.cons (by kernel_rfl) (by kernel_rfl) (Opn.Opens.int Try.underlying3) (Opn.OpensF.cons (by kernel_rfl) (by kernel_rfl) (Opn.Opens.int Try.underlying3) (Opn.OpensF.one (by kernel_rfl) (Opn.Opens.int Try.underlying3))))

def good36 (x : S36) : Prop := (Lit.int .u32 x.f0).wf = true ∧ x.f1.size ≤ 9223372036854775807 ∧ (Lit.int .u8 x.f2).wf = true ∧ (Lit.int .i64 x.f3).wf = true ∧ (Lit.int .i64 x.f4).wf = true
theorem opens36 : Opn.Opens Try.prog 36 k36 good36 :=
  Opn.Opens.struct (fun x : S36 => (x.f0, x.f1, x.f2, x.f3, x.f4)) (fun x => ⟨x.1, x.2.1, x.2.2.1, x.2.2.2.1, x.2.2.2.2⟩) (fun _ => rfl) Try.underlying36 (by kernel_rfl) (Opn.OpensF.cons (by kernel_rfl) (by kernel_rfl) (Opn.Opens.int Try.underlying22) (Opn.OpensF.cons (by kernel_rfl) (by kernel_rfl) (Opn.Opens.string Try.underlying9) (Opn.OpensF.cons (by kernel_rfl) (by kernel_rfl) (Opn.Opens.int Try.underlying5) (Opn.OpensF.cons (by kernel_rfl) (by kernel_rfl) (Opn.Opens.int Try.underlying3) (Opn.OpensF.one (by kernel_rfl) (Opn.Opens.int Try.underlying3))))))

end Go.Proofs.Ytgfkdcckifdcpaa.Q

/- One start at which the listed tables lie as they are listed; and what the list says of the powers of ten. -/
import Derived.Test.YtpmehejlamddeaaDoorRows
import Derived.Test.YtpmehejlamddeaaDoorTb
import Derived.ProofKit
import Derived.SizedLaws
import Derived.Lib.LaidTab
import Derived.Stop.LaidErr
namespace Go.Proofs.YtpmehejlamddeaaDoor.Q
open Go.RowKit Go.ChangeShapes Go.WideShapes Go.ChangeAt
/-- A datum's numbers, one behind the other. -/
def flat : Nat → DataW Unit → List Value
  | 0, _ => []
  | n + 1, .agg l => l.flatMap (flat n)
  | _, .lit (.int k z) => [.int k z]
  | _, _ => []
noncomputable def laidWorld (os : Os) : World :=
  let w0 := World.holding Tryd.prog os ⟨#[], #[], []⟩
  { w0 with heap := (Rows.fixedReadsRow.laid).foldl (fun h x => h.modify ((Tryd.prog.globalNamed x.1).getD 0) fun
      | .cells _ t frozen => .cells (flat 3 x.2).toArray t frozen
      | o => o) w0.heap }
theorem laidWorld_met (os : Os) (args : Array Value) : laidMet Tryd.prog Rows.fixedReadsRow.laid ((laidWorld os).forCall (fun _ _ => 0) ⟨#[], args, []⟩).memory :=
  laidMet_of_run' 8 (by kernel_rfl) (by kernel_rfl)
theorem gPow : Tryd.prog.globalNamed "internal/strconv.uint64pow10" = some 0 := by kernel_rfl
theorem gPowType : (Tryd.prog.globals[0]?).map (·.type) = some 92 := by kernel_rfl
theorem cellsPow : Tryd.prog.cellsOf 92 = 20 := by kernel_rfl
theorem cellsElem : Tryd.prog.cellsOf 74 = 1 := by kernel_rfl
theorem tb_of_laid {W : World} (h : laidMet Tryd.prog Rows.fixedReadsRow.laid W) : Tb W := by
  have h1 := laidMet.tail (laidMet.tail h)
  exact Lib.tabIs_of_head gPow gPowType Tryd.underlying92 Tryd.underlying74 cellsElem cellsPow h1
end Go.Proofs.YtpmehejlamddeaaDoor.Q

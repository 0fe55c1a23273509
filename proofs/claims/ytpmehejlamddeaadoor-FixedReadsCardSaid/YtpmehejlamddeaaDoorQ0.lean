/- Functions of the program as plain Lean functions, each with the proof that its call comes to just these answers: written by a program of this session (wip/tools/printg.py over the kit's print) for this claim. -/
import Derived.Test.YtpmehejlamddeaaDoorProg
import Derived.Below
import Derived.Deep.Draws
import Derived.Deep.AppendLies
import Derived.Maps.AppendAt
import Derived.OwnWalk
import Derived.Laws.BytesArg
import Derived.Laws.MakeOwn
import Derived.Laws.OwnMore
import Derived.Deep.OwnRows
import Derived.Tactics
import Derived.Lib.ConvBytes
import Derived.Laws.Slices
import Derived.WalkKit
import Derived.KernelRfl
import Derived.RowKit3
import Derived.Deep.LoopGhost
import Derived.Deep.QuietTactic
import Derived.BigQuiet
import Derived.WideLaws
import Derived.Deep.DeepCutAuto
import Derived.Deep.CutBlock
import Derived.Deep.RegionHeld3
import Derived.Laws.Rows
import Derived.Lib.AppendStr
import Derived.ArgAppend
import Derived.Laws.IdiomCopy
import Derived.OrdersHeld
import Derived.Laws.BitsLemmas
import Derived.RowKit
import Derived.Test.YtpmehejlamddeaaDoorOpen
import Derived.StillTailTactics
import Derived.Test.YtpmehejlamddeaaDoorTb
import Derived.Test.YtpmehejlamddeaaDoorWWords
import Derived.Test.YtpmehejlamddeaaDoorWLast
import Derived.Test.YtpmehejlamddeaaDoorWTab
import Derived.Test.YtpmehejlamddeaaDoorWFour
import Derived.Test.YtpmehejlamddeaaDoorWQPut
import Derived.Test.YtpmehejlamddeaaDoorWApart
import Derived.Test.YtpmehejlamddeaaDoorWArr
import Derived.Test.YtpmehejlamddeaaDoorWZeros
import Derived.Test.YtpmehejlamddeaaDoorWFoot
import Derived.Test.YtpmehejlamddeaaDoorWKept
import Derived.Test.YtpmehejlamddeaaDoorWShare
import Derived.Test.YtpmehejlamddeaaDoorWN
import Derived.Test.YtpmehejlamddeaaDoorWFootNe
import Derived.Test.YtpmehejlamddeaaDoorWAt
import Derived.Test.YtpmehejlamddeaaDoorWEqStruct
import Derived.Test.YtpmehejlamddeaaDoorWRepsOne
import Derived.Test.YtpmehejlamddeaaDoorWInv
import Derived.Test.YtpmehejlamddeaaDoorWInvWords
import Derived.Test.YtpmehejlamddeaaDoorWGuard
import Derived.Test.YtpmehejlamddeaaDoorWNEv
import Derived.Test.YtpmehejlamddeaaDoorWMore
namespace Go.Proofs.YtpmehejlamddeaaDoor.Q
open Go.RowKit Go.Proofs.YtpmehejlamddeaaDoorW.PrintWords Go.Proofs.YtpmehejlamddeaaDoorW.PrintLast Go.Proofs.YtpmehejlamddeaaDoorW.PrintMore
attribute [local go_sem] Opn.str_leq Opn.str_gtr Opn.str_geq max2_int min2_int max_two min_two max_three min_three max_four min_four   -- for this text's walks alone
set_option linter.unusedVariables false
set_option linter.unusedSimpArgs false



def errW : Option Int → Value
  | none => .nilIface
  | some c => .iface 0 (.int .i64 c)
theorem errW_none : errW none = .nilIface := rfl
theorem errW_some (c : Int) : errW (some c) = .iface 0 (.int .i64 c) := rfl

theorem info2 : (Tryd.prog.info? 2).map (fun i => (i.zero, i.size, i.bytes)) = some (some (.int .i64 0), 1, 8) := by kernel_rfl
theorem info5 : (Tryd.prog.info? 5).map (fun i => (i.zero, i.size, i.bytes)) = some (some (.int .u8 0), 1, 1) := by kernel_rfl
-- the values' own types

end Go.Proofs.YtpmehejlamddeaaDoor.Q

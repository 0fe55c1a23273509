/- The chapter's examples, reckoned. -/
import Derived.Test.YticemdlnnmndoaaQ28
namespace Go.Proofs.Yticemdlnnmndoaa.Pure
open Go.RowKit Go.Proofs.YticemdlnnmndoaaW.PrintWords Go.Proofs.YticemdlnnmndoaaW.PrintLast Go.Proofs.Yticemdlnnmndoaa.Q

theorem awake_at : tocsinlaw08_awake.f 60 = some true := by decide +kernel
theorem awake : Ev (fun k => tocsinlaw08_awake.f k) true := Ev.of tocsinlaw08_awake.mono awake_at
end Go.Proofs.Yticemdlnnmndoaa.Pure

/- The chapter's examples, with which the laws of alerts begin, come out as the chapter says: by reckoning. -/
import Derived.Test.YtgfkdcckifdcpaaQ4
namespace Go.Proofs.Ytgfkdcckifdcpaa.Pure
open Go.RowKit Go.Proofs.YtgfkdcckifdcpaaW.PrintWords Go.Proofs.YtgfkdcckifdcpaaW.PrintLast Go.Proofs.Ytgfkdcckifdcpaa.Q

theorem awake_at : tocsinlaw22_awake.f 60 = some true := by decide +kernel
theorem awake : Ev (fun k => tocsinlaw22_awake.f k) true := Ev.of tocsinlaw22_awake.mono awake_at
end Go.Proofs.Ytgfkdcckifdcpaa.Pure

/- The chapter's examples, with which the laws of numbers begin, come out as the chapter says: by reckoning. -/
import Derived.Test.YtpmehejlamddeaaDoorQ5
namespace Go.Proofs.YtpmehejlamddeaaDoor.Pure
open Go.RowKit Go.Proofs.YtpmehejlamddeaaDoorW.PrintWords Go.Proofs.YtpmehejlamddeaaDoorW.PrintLast Go.Proofs.YtpmehejlamddeaaDoor.Q

theorem awake_at : tocsinlaw01_awake.f 200 = some true := by decide +kernel
theorem awake : Ev (fun k => tocsinlaw01_awake.f k) true := Ev.of tocsinlaw01_awake.mono awake_at
end Go.Proofs.YtpmehejlamddeaaDoor.Pure

/- The chapter's examples, with which the laws of labels begin, come out as the chapter says: by reckoning. -/
import Derived.Test.YtiicfejaoilfcaaQ25
namespace Go.Proofs.Ytiicfejaoilfcaa.Pure
open Go.RowKit Go.Proofs.YtiicfejaoilfcaaW.PrintWords Go.Proofs.YtiicfejaoilfcaaW.PrintLast Go.Proofs.Ytiicfejaoilfcaa.Q

theorem awake_at : tocsinlaw07_awake.f 60 = some true := by decide +kernel
theorem awake : Ev (fun k => tocsinlaw07_awake.f k) true := Ev.of tocsinlaw07_awake.mono awake_at
end Go.Proofs.Ytiicfejaoilfcaa.Pure

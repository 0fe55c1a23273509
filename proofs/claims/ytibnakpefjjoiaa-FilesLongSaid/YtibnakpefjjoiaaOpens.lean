/- How a law's arguments are opened: what their elements are, and are good for. No law is proved here. -/
import Derived.Test.YtibnakpefjjoiaaOpen
import Derived.Test.YtibnakpefjjoiaaQ0
namespace Go.Proofs.Ytibnakpefjjoiaa.Q
open Go.RowKit Go.Proofs.YtibnakpefjjoiaaW.PrintWords
set_option linter.unusedVariables false
end Go.Proofs.Ytibnakpefjjoiaa.Q

/- The pure statement of FixedReads: any text is read as the document reads it; any number is written as the document writes it. -/
import Derived.Test.YtpmehejlamddeaaDoorQ10
import Derived.Test.YtpmehejlamddeaaDoorRefW
namespace Go.Proofs.YtpmehejlamddeaaDoor.Pure
open Go.RowKit Go.Proofs.YtpmehejlamddeaaDoorW.PrintWords Go.Proofs.YtpmehejlamddeaaDoorW.PrintLast Go.Proofs.YtpmehejlamddeaaDoorW.PrintMore Go.Proofs.YtpmehejlamddeaaDoor.Q
set_option linter.unusedVariables false
set_option linter.unusedSimpArgs false

theorem FixedReads : tocsinlaw01_FixedReads.Pure := by
  intro s x _ _
  refine Ev.rounds ?_
  unfold tocsinlaw01_FixedReads.f
  by_cases hs : (s.size : Int) > 20000
  · exact ev_pos hs (ev_some rfl)
  refine ev_neg hs (Ev.bind (parse_ev s (by omega)) (Ev.bind (refParse_ev s (by omega)) (ev_pos rfl (ev_pos rfl (Ev.bind (print_ev x) (Ev.bind (refPrint_ev x) (ev_some ?_)))))))
  rw [beq_iff_eq]
end Go.Proofs.YtpmehejlamddeaaDoor.Pure

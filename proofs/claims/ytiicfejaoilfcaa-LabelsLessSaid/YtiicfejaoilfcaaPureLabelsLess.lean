/- The pure statement of LabelsLess: of any two rows the program tells whether the first one is less just as the document's own text does. -/
import Derived.Test.YtiicfejaoilfcaaQ6
import Derived.Test.YtiicfejaoilfcaaLessP
namespace Go.Proofs.Ytiicfejaoilfcaa.Pure
open Go.RowKit Go.Proofs.YtiicfejaoilfcaaW.PrintWords Go.Proofs.YtiicfejaoilfcaaW.PrintLast Go.Proofs.Ytiicfejaoilfcaa.Q
set_option linter.unusedVariables false
set_option linter.unusedSimpArgs false

theorem LabelsLess : tocsinlaw07_LabelsLess.Pure := by
  intro a b ha _ hga hb _ hgb
  refine Ev.rounds ?_
  obtain ⟨r, hr, _⟩ := great a hga
  obtain ⟨q, hq, _⟩ := great b hgb
  unfold tocsinlaw07_LabelsLess.f
  refine Ev.bind hr ?_
  cases r with
  | true => exact Ev.congr (fun _ => if_pos rfl) (Ev.now _)
  | false =>
    refine Ev.congr (fun _ => if_neg (by simp)) ?_
    refine Ev.bind hq ?_
    cases q with
    | true => exact Ev.congr (fun _ => if_pos rfl) (Ev.now _)
    | false =>
      refine Ev.congr (fun _ => if_neg (by simp)) ?_
      refine Ev.bind (a := lessL a b) (Ev.now _) ?_
      refine Ev.bind (refless a b ha hb) ?_
      exact Ev.congr (fun _ => by simp) (Ev.now _)
end Go.Proofs.Ytiicfejaoilfcaa.Pure

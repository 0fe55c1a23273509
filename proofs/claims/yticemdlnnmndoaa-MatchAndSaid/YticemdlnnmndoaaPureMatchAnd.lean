/- The pure statement of MatchAnd: two rows of matchers one behind the other hold just where both do. -/
import Derived.Test.YticemdlnnmndoaaQ30
import Derived.Test.YticemdlnnmndoaaGreatP
import Derived.Test.YticemdlnnmndoaaAwakeP
namespace Go.Proofs.Yticemdlnnmndoaa.Pure
open Go.RowKit Go.Proofs.YticemdlnnmndoaaW.PrintWords Go.Proofs.YticemdlnnmndoaaW.PrintLast Go.Proofs.Yticemdlnnmndoaa.Q
set_option linter.unusedVariables false
set_option linter.unusedSimpArgs false

theorem MatchAnd : tocsinlaw08_MatchAnd.Pure := by
  intro a b l ha _ hga hb _ hgb hl _ hgl
  refine Ev.rounds ?_
  unfold tocsinlaw08_MatchAnd.f
  refine Ev.bind awake (ev_pos rfl ?_)
  have hj : Ev (fun k => tocsinlaw08_MatchAnd.j0 k a b l true) true := Ev.step (fun k => by rw [tocsinlaw08_MatchAnd.j0, if_pos rfl]) (Ev.now _)
  obtain ⟨r, hr, hs⟩ := great a l hga hgl
  refine Ev.bind hr ?_
  cases r with
  | true => exact ev_pos rfl hj
  | false =>
    have hsa := (hs rfl).1.1
    refine ev_neg (by simp) ?_
    obtain ⟨q, hq, hs2⟩ := great b [] hgb (by simp)
    refine Ev.bind hq ?_
    cases q with
    | true => exact hj
    | false =>
      have hsb := (hs2 rfl).1.1
      have hc : tocsinref08_Copy.f a = some a := by unfold tocsinref08_Copy.f; rw [if_pos (by simp; omega), List.nil_append]
      refine Ev.step (fun k => by rw [tocsinlaw08_MatchAnd.j0, if_neg (by simp), hc, Option.bind_some, if_pos (by omega), match_Does.f, Option.bind_some, match_Does.f, Option.bind_some]) ?_
      have he : doesL (a ++ b) l = (doesL a l && doesL b l) := by unfold doesL; rw [List.all_append]
      rw [he]
      cases doesL a l with
      | true => exact ev_pos rfl (ev_some (by simp))
      | false => exact ev_neg (by simp) (ev_some (by simp))
end Go.Proofs.Yticemdlnnmndoaa.Pure

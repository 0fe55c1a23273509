/- The pure statement of MatchTurned: the order of matchers changes nothing of whether they hold, nor does a matcher that stands twice. -/
import Derived.Test.YticemdlnnmndoaaQ32
import Derived.Test.YticemdlnnmndoaaGreatP
import Derived.Test.YticemdlnnmndoaaAwakeP
namespace Go.Proofs.Yticemdlnnmndoaa.Pure
open Go.RowKit Go.Proofs.YticemdlnnmndoaaW.PrintWords Go.Proofs.YticemdlnnmndoaaW.PrintLast Go.Proofs.Yticemdlnnmndoaa.Q
set_option linter.unusedVariables false
set_option linter.unusedSimpArgs false

theorem turned_ev (m : List S30) (l : List S44) (hm : m.length ≤ 100) : ∀ (d : Nat) (x : Int) (acc : List S30), x + 1 = d → x < m.length → acc.length + d = m.length → acc = (m.drop d).reverse →
    Ev (fun k => tocsinlaw08_MatchTurned.l0 k m l acc x) true := by
  intro d
  induction d with
  | zero =>
    intro x acc hx h1 hal he
    rw [List.drop_zero] at he
    have hd : doesL acc l = doesL m l := by rw [he]; unfold doesL; rw [List.all_reverse]
    have hd2 : doesL (acc ++ m) l = doesL m l := by
      unfold doesL at hd ⊢
      rw [List.all_append, hd, Bool.and_self]
    refine Ev.step (fun k => by rw [tocsinlaw08_MatchTurned.l0, if_neg (by omega), match_Does.f, Option.bind_some, match_Does.f, Option.bind_some, hd, if_neg (by simp), if_pos (by omega), match_Does.f, Option.bind_some, hd2]) (ev_some (by simp))
  | succ d ih =>
    intro x acc hx h1 hal he
    have hlen : (m.drop d).length = m.length - d := List.length_drop
    refine Ev.step (fun k => by rw [tocsinlaw08_MatchTurned.l0, if_pos (by omega), if_pos (by omega), if_pos (by omega), if_pos (by omega), w64 (x := x - 1) (by omega) (by omega)]) ?_
    refine ih (x - 1) _ (by omega) (by omega) (by rw [List.length_append, List.length_singleton]; omega) ?_
    have h2 := rd_drop30 m d (by omega)
    rw [h2, List.reverse_cons, ← he, show x = ((d : Nat) : Int) by omega]
theorem MatchTurned : tocsinlaw08_MatchTurned.Pure := by
  intro m l hm _ hgm hl _ hgl
  refine Ev.rounds ?_
  unfold tocsinlaw08_MatchTurned.f
  refine Ev.bind awake (ev_pos rfl ?_)
  obtain ⟨r, hr, hs⟩ := great m l hgm hgl
  refine Ev.bind hr ?_
  cases r with
  | true => exact ev_pos rfl (Ev.now _)
  | false =>
    have h100 := (hs rfl).1.1
    refine ev_neg (by simp) ?_
    rw [w64 (by omega) (by omega)]
    exact turned_ev m l h100 m.length _ [] (by omega) (by omega) (by simp) (by simp)
end Go.Proofs.Yticemdlnnmndoaa.Pure

/- The pure statement of FixedSums: numbers summed up in two parts are summed up as all at once. -/
import Derived.Test.YtpmehejlamddeaaDoorQ6
import Derived.Test.YtpmehejlamddeaaDoorBaseP
import Derived.Test.YtpmehejlamddeaaDoorAwakeP
namespace Go.Proofs.YtpmehejlamddeaaDoor.Pure
open Go.RowKit Go.Proofs.YtpmehejlamddeaaDoorW.PrintWords Go.Proofs.YtpmehejlamddeaaDoorW.PrintLast Go.Proofs.YtpmehejlamddeaaDoorW.PrintMore Go.Proofs.YtpmehejlamddeaaDoor.Q
set_option linter.unusedVariables false
set_option linter.unusedSimpArgs false

theorem sums_l0 (l : List Int) (hl : l.length ≤ 1000) : ∀ (d : Nat) (x acc : Int), 0 ≤ x → x ≤ l.length → (l.length : Int) - x = d → Within acc → sumL acc (l.drop x.toNat) = sumL 0 l → Ev (fun k => tocsinlaw01_FixedSums.l0 k l acc x) true := by
  intro d
  induction d with
  | zero =>
    intro x acc h0 h1 hd hw hs
    rw [List.drop_eq_nil_of_le (by omega)] at hs
    have hs : acc = sumL 0 l := hs
    refine Ev.step (fun k => by rw [tocsinlaw01_FixedSums.l0, if_neg (by omega)]) ?_
    refine Ev.bind (sum_ev l (by omega)) (ev_pos hs ?_)
    rw [within_true hw]
    exact Ev.now _
  | succ d ih =>
    intro x acc h0 h1 hd hw hs
    have hx : x < l.length := by omega
    rw [rd_drop l x h0 hx] at hs
    exact Ev.step (fun k => by rw [tocsinlaw01_FixedSums.l0, if_pos hx, if_pos h0, add_f, Option.bind_some, w64 (x := x + 1) (by omega) (by omega)]) (ih (x + 1) (addL acc (rd l x)) (by omega) (by omega) (by omega) (sat_range _) hs)
theorem FixedSums : tocsinlaw01_FixedSums.Pure := by
  intro l x _ _ _ _
  refine Ev.rounds ?_
  unfold tocsinlaw01_FixedSums.f
  have hj : Ev (fun k => tocsinlaw01_FixedSums.j0 k l x true) true := Ev.step (fun k => by rw [tocsinlaw01_FixedSums.j0, if_pos rfl]) (Ev.now _)
  refine Ev.bind awake (ev_pos rfl ?_)
  by_cases a : (l.length : Int) > 1000
  · exact ev_pos a hj
  · refine ev_neg a ?_
    by_cases b : x < 0
    · exact ev_pos b hj
    · refine ev_neg b ?_
      by_cases c : x > (l.length : Int)
      · rw [decide_eq_true c]; exact hj
      · rw [decide_eq_false c]
        refine Ev.step (fun k => by rw [tocsinlaw01_FixedSums.j0, if_neg (by simp), if_pos (by omega), if_pos (by omega)]) ?_
        refine Ev.bind (sum_ev (l.take x.toNat) (by rw [List.length_take]; omega)) ?_
        refine sums_l0 l (by omega) ((l.length : Int) - x).toNat x _ (by omega) (by omega) (by omega) (sum_within _ _ ⟨by omega, by omega⟩) ?_
        unfold sumL
        rw [← List.foldl_append, List.take_append_drop]
end Go.Proofs.YtpmehejlamddeaaDoor.Pure

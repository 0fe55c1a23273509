/- The pure statement of MatchParts: of matchers that may be any that stand together may be; seven never. -/
import Derived.Test.YticemdlnnmndoaaQ34
import Derived.Test.YticemdlnnmndoaaGreatP
import Derived.Test.YticemdlnnmndoaaAwakeP
namespace Go.Proofs.Yticemdlnnmndoaa.Pure
open Go.RowKit Go.Proofs.YticemdlnnmndoaaW.PrintWords Go.Proofs.YticemdlnnmndoaaW.PrintLast Go.Proofs.Yticemdlnnmndoaa.Q
set_option linter.unusedVariables false
set_option linter.unusedSimpArgs false

theorem may_part (m : List S30) (i j : Nat) (h : mayM m = true) : mayM ((m.take j).drop i) = true := by
  unfold mayM at h ⊢
  rw [Bool.and_eq_true] at h ⊢
  refine ⟨?_, ?_⟩
  · rw [List.all_eq_true]
    intro y hy
    exact List.all_eq_true.1 h.1 y (List.mem_of_mem_take (List.mem_of_mem_drop hy))
  · have h2 := of_decide_eq_true h.2
    have : ((m.take j).drop i).length ≤ m.length := by rw [List.length_drop, List.length_take]; omega
    exact decide_eq_true (by omega)
theorem parts_j1 (m : List S30) (x1 x2 : Int) (hm : m.length ≤ 100) (h0 : 0 ≤ x1) (h1 : x1 ≤ x2) (h2 : x2 ≤ m.length) : Ev (fun k => tocsinlaw08_MatchParts.j1 k m x1 x2 false) true := by
  have hlen : ((m.take (x2 : Int).toNat).drop (x1 : Int).toNat).length ≤ 100 := by rw [List.length_drop, List.length_take]; omega
  have hc : tocsinref08_Copy.f ((m.take (x2 : Int).toNat).drop (x1 : Int).toNat) = some ((m.take (x2 : Int).toNat).drop (x1 : Int).toNat) := by
    unfold tocsinref08_Copy.f
    rw [if_pos (by simp only [List.length_nil]; omega), List.nil_append]
  refine Ev.step (fun k => by rw [tocsinlaw08_MatchParts.j1, if_neg (by simp), if_pos h0, if_pos h1, if_pos h2, hc, Option.bind_some, match_May.f, Option.bind_some, match_May.f, Option.bind_some]) ?_
  cases h : mayM m with
  | false => exact ev_neg (by simp) (Ev.now _)
  | true => exact ev_pos rfl (ev_some (may_part m _ _ h))
theorem MatchParts : tocsinlaw08_MatchParts.Pure := by
  intro m x1 x2 hm _ hgm _ _
  refine Ev.rounds ?_
  unfold tocsinlaw08_MatchParts.f
  refine Ev.bind awake (ev_pos rfl ?_)
  have hj : Ev (fun k => tocsinlaw08_MatchParts.j0 k m x1 x2 true) true := Ev.step (fun k => by rw [tocsinlaw08_MatchParts.j0, if_pos rfl]) (Ev.now _)
  obtain ⟨r, hr, hs⟩ := great m [] hgm (by simp)
  refine Ev.bind hr ?_
  cases r with
  | true => exact ev_pos rfl hj
  | false =>
    have h100 := (hs rfl).1.1
    refine ev_neg (by simp) ?_
    by_cases a : x1 < 0
    · exact ev_pos a hj
    · refine ev_neg a ?_
      by_cases b : x2 < x1
      · exact ev_pos b hj
      · refine ev_neg b ?_
        by_cases c : x2 > (m.length : Int)
        · rw [decide_eq_true c]; exact hj
        · rw [decide_eq_false c]
          have hj1 := parts_j1 m x1 x2 h100 (by omega) (by omega) (by omega)
          refine Ev.step (fun k => by rw [tocsinlaw08_MatchParts.j0, if_neg (by simp)]) ?_
          by_cases q : (m.length : Int) > 6
          · refine ev_pos q ?_
            have hq : mayM m = false := by unfold mayM; rw [decide_eq_false (by omega), Bool.and_false]
            refine Ev.congr (fun k => by rw [match_May.f, Option.bind_some, hq]) hj1
          · exact ev_neg q hj1
end Go.Proofs.Yticemdlnnmndoaa.Pure

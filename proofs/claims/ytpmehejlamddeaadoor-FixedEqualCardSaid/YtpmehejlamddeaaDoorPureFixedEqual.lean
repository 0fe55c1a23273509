/- The pure statement of FixedEqual: so many equal numbers have that number for their mean. -/
import Derived.Test.YtpmehejlamddeaaDoorQ13
import Derived.Test.YtpmehejlamddeaaDoorBaseP
import Derived.Test.YtpmehejlamddeaaDoorAwakeP
namespace Go.Proofs.YtpmehejlamddeaaDoor.Pure
open Go.RowKit Go.Proofs.YtpmehejlamddeaaDoorW.PrintWords Go.Proofs.YtpmehejlamddeaaDoorW.PrintLast Go.Proofs.YtpmehejlamddeaaDoorW.PrintMore Go.Proofs.YtpmehejlamddeaaDoor.Q
set_option linter.unusedVariables false
set_option linter.unusedSimpArgs false

theorem times {x j : Int} (h0 : -4611686018427387 ≤ x) (h1 : x ≤ 4611686018427387) (j0 : 0 ≤ j) (j1 : j ≤ 1000) : -4611686018427387000 ≤ j * x ∧ j * x ≤ 4611686018427387000 := by
  have a := Int.mul_le_mul_of_nonneg_left h1 j0
  have b := Int.mul_le_mul_of_nonneg_left h0 j0
  omega
theorem sum_same {x : Int} (h0 : -4611686018427387 ≤ x) (h1 : x ≤ 4611686018427387) : ∀ n : Nat, n ≤ 1000 → sumL 0 (List.replicate n x) = (n : Int) * x
  | 0, _ => by simp [sumL]
  | n + 1, hn => by
    have ih := sum_same h0 h1 n (by omega)
    have t1 := times h0 h1 (j := n) (by omega) (by omega)
    have t2 := times h0 h1 (j := (n : Int) + 1) (by omega) (by omega)
    have e : ((n : Int) + 1) * x = n * x + x := by rw [Int.add_mul, Int.one_mul]
    rw [List.replicate_succ', sumL, List.foldl_append]
    unfold sumL at ih
    rw [ih, List.foldl_cons, List.foldl_nil, addL, sat_id (x := (n : Int) * x) (by omega) (by omega), sat_id (x := x) (by omega) (by omega), sat_id (by omega) (by omega), Int.natCast_succ, e]
theorem equal_l0 (x n : Int) (h0 : -4611686018427387 ≤ x) (h1 : x ≤ 4611686018427387) (n0 : 1 ≤ n) (n1 : n ≤ 1000) : ∀ (d i : Nat), (i : Int) ≤ n → n - i = d → Ev (fun k => tocsinlaw01_FixedEqual.l0 k x n (List.replicate i x) i) true := by
  intro d
  induction d with
  | zero =>
    intro i hi hd
    have hin : (i : Int) = n := by omega
    have t := times h0 h1 (j := n) (by omega) (by omega)
    have hs : sumL 0 (List.replicate i x) = n * x := by rw [sum_same h0 h1 i (by omega), hin]
    refine Ev.step (fun k => by rw [tocsinlaw01_FixedEqual.l0, if_neg (by omega)]) ?_
    have hsum := sum_ev (List.replicate i x) (by rw [List.length_replicate]; omega)
    rw [hs] at hsum
    refine Ev.bind hsum (ev_pos ?_ (Ev.bind hsum ?_))
    · rw [Int.mul_comm x n, w64 (by omega) (by omega)]
    · have hm : fixed_Mean.f (n * x) n = some x := by
        unfold fixed_Mean.f
        rw [if_neg (by omega), sat_f, Option.bind_some, if_neg (by omega), sat_id (by omega) (by omega), Int.mul_tdiv_cancel_left x (by omega), w64 (by omega) (by omega)]
      rw [hm]
      exact ev_bsome (ev_some (by simp))
  | succ d ih =>
    intro i hi hd
    have hw : wrap64 ((i : Int) + 1) = ((i + 1 : Nat) : Int) := (w64 (x := (i : Int) + 1) (by omega) (by omega)).trans (by omega)
    have hnext := ih (i + 1) (by omega) (by omega)
    rw [List.replicate_succ'] at hnext
    exact Ev.step (fun k => by rw [tocsinlaw01_FixedEqual.l0, if_pos (by omega), if_pos (by rw [List.length_replicate]; omega), hw]) hnext
theorem FixedEqual : tocsinlaw01_FixedEqual.Pure := by
  intro x n _ _
  refine Ev.rounds ?_
  unfold tocsinlaw01_FixedEqual.f
  have hj : Ev (fun k => tocsinlaw01_FixedEqual.j0 k x n true) true := Ev.step (fun k => by rw [tocsinlaw01_FixedEqual.j0, if_pos rfl]) (Ev.now _)
  refine Ev.bind awake (ev_pos rfl ?_)
  by_cases a : n < 1
  · exact ev_pos a hj
  · refine ev_neg a ?_
    by_cases b : n > 1000
    · exact ev_pos b hj
    · refine ev_neg b ?_
      by_cases c : x > 4611686018427387
      · exact ev_pos c hj
      · refine ev_neg c ?_
        by_cases e : x < -4611686018427387
        · rw [decide_eq_true e]; exact hj
        · rw [decide_eq_false e]
          refine Ev.step (fun k => by rw [tocsinlaw01_FixedEqual.j0, if_neg (by simp)]) ?_
          exact equal_l0 x n (by omega) (by omega) (by omega) (by omega) n.toNat 0 (by omega) (by omega)
end Go.Proofs.YtpmehejlamddeaaDoor.Pure

/- The pure statement of FixedWithin: all answers lie within the bounds; adding doesn't mind the order; a mean's rest is less than what it is divided by. -/
import Derived.Test.YtpmehejlamddeaaDoorQ16
import Derived.Test.YtpmehejlamddeaaDoorBaseP
import Derived.Test.YtpmehejlamddeaaDoorAwakeP
namespace Go.Proofs.YtpmehejlamddeaaDoor.Pure
open Go.RowKit Go.Proofs.YtpmehejlamddeaaDoorW.PrintWords Go.Proofs.YtpmehejlamddeaaDoorW.PrintLast Go.Proofs.YtpmehejlamddeaaDoorW.PrintMore Go.Proofs.YtpmehejlamddeaaDoor.Q
set_option linter.unusedVariables false
set_option linter.unusedSimpArgs false

theorem tdiv_facts (x n : Int) (hx : Within x) (hn : 1 ≤ n) : Within (Int.tdiv x n) ∧ Within (Int.tdiv x n * n) ∧ (0 ≤ x → 0 ≤ Int.tdiv x n ∧ 0 ≤ x - Int.tdiv x n * n ∧ x - Int.tdiv x n * n < n) ∧ (x < 0 → Int.tdiv x n ≤ 0 ∧ x - Int.tdiv x n * n ≤ 0 ∧ -n < x - Int.tdiv x n * n) := by
  obtain ⟨h0, h1⟩ := hx
  have key : ∀ y : Int, 0 ≤ y → 0 ≤ Int.tdiv y n ∧ Int.tdiv y n ≤ y ∧ 0 ≤ y - Int.tdiv y n * n ∧ y - Int.tdiv y n * n < n ∧ 0 ≤ Int.tdiv y n * n := by
    intro y hy
    rw [Int.tdiv_eq_ediv_of_nonneg hy]
    have e := Int.emod_add_mul_ediv y n
    have e1 := Int.emod_nonneg y (show n ≠ 0 by omega)
    have e2 := Int.emod_lt_of_pos y (show 0 < n by omega)
    have e3 := Int.ediv_nonneg hy (show 0 ≤ n by omega)
    have e4 := Int.ediv_le_self n hy
    rw [Int.mul_comm] at e
    exact ⟨e3, e4, by omega, by omega, Int.mul_nonneg e3 (by omega)⟩
  rcases Int.lt_or_le x 0 with hneg | hpos
  · have k := key (-x) (by omega)
    rw [Int.neg_tdiv] at k
    have e : -Int.tdiv x n * n = -(Int.tdiv x n * n) := Int.neg_mul _ _
    rw [e] at k
    obtain ⟨k1, k2, k3, k4, k5⟩ := k
    generalize Int.tdiv x n * n = p at *
    exact ⟨⟨by omega, by omega⟩, ⟨by omega, by omega⟩, fun h => by omega, fun _ => ⟨by omega, by omega, by omega⟩⟩
  · obtain ⟨k1, k2, k3, k4, k5⟩ := key x hpos
    generalize Int.tdiv x n * n = p at *
    exact ⟨⟨by omega, by omega⟩, ⟨by omega, by omega⟩, fun _ => ⟨k1, k3, k4⟩, fun h => by omega⟩
def meanL (a n : Int) : Int := if n < 1 then 0 else Int.tdiv (sat a) n
theorem mean_f (a n : Int) : fixed_Mean.f a n = some (meanL a n) := by
  unfold fixed_Mean.f meanL
  by_cases h : n < 1
  · rw [if_pos h, if_pos h]
  · obtain ⟨⟨h1, h2⟩, -⟩ := tdiv_facts (sat a) n (sat_range a) (by omega)
    rw [if_neg h, if_neg h, sat_f, Option.bind_some, if_neg (by omega), w64 (by omega) (by omega)]
theorem mean_within (a n : Int) : Within (meanL a n) := by
  unfold meanL
  by_cases h : n < 1
  · rw [if_pos h]; exact ⟨by omega, by omega⟩
  · rw [if_neg h]; exact (tdiv_facts (sat a) n (sat_range a) (by omega)).1
theorem wf_bounds {x : Int} (h : (Lit.int .i64 x).wf = true) : -9223372036854775808 ≤ x ∧ x ≤ 9223372036854775807 := by
  have e1 : IntKind.i64.min = -9223372036854775808 := rfl
  have e2 : IntKind.i64.max = 9223372036854775807 := rfl
  simpa [Lit.wf, e1, e2] using h
theorem within_j2 (a n : Int) (hn1 : n ≤ 9223372036854775807) : Ev (fun k => tocsinlaw01_FixedWithin.j2 k a n (sat a) false) true := by
  refine Ev.step (fun k => by rw [tocsinlaw01_FixedWithin.j2, if_neg (by simp), mean_f, Option.bind_some]) ?_
  by_cases h : n < 1
  · refine ev_pos h (ev_some ?_)
    unfold meanL
    rw [if_pos h]
    rfl
  · have hm : meanL a n = Int.tdiv (sat a) n := by unfold meanL; rw [if_neg h]
    obtain ⟨⟨m0, m1⟩, ⟨p0, p1⟩, hp, hq⟩ := tdiv_facts (sat a) n (sat_range a) (by omega)
    obtain ⟨s0, s1⟩ := sat_range a
    refine ev_neg h ?_
    rw [hm]
    have hw : wrap64 (Int.tdiv (sat a) n * n) = Int.tdiv (sat a) n * n := w64 (by omega) (by omega)
    rw [hw]
    have hw2 : wrap64 (sat a - Int.tdiv (sat a) n * n) = sat a - Int.tdiv (sat a) n * n := w64 (by omega) (by omega)
    rw [hw2]
    by_cases hs : 0 ≤ sat a
    · obtain ⟨q1, q2, q3⟩ := hp hs
      exact ev_pos hs (ev_pos q1 (ev_pos q2 (ev_pos q3 (Ev.now _))))
    · obtain ⟨q1, q2, q3⟩ := hq (by omega)
      refine ev_neg hs (ev_pos (by omega) (ev_pos q1 (ev_pos q2 (ev_some ?_))))
      refine decide_eq_true ?_
      show wrap64 (-n) < _
      rw [w64 (by omega) (by omega)]
      exact q3
theorem within_j1 (a b n : Int) (hn1 : n ≤ 9223372036854775807) : Ev (fun k => tocsinlaw01_FixedWithin.j1 k a b n (sat a) (sat b) (addL a b) false) true := by
  obtain ⟨a0, a1⟩ := sat_range a
  obtain ⟨b0, b1⟩ := sat_range b
  refine Ev.step (fun k => by rw [tocsinlaw01_FixedWithin.j1, if_neg (by simp), w64 (x := sat a + sat b) (by omega) (by omega), within_f, Option.bind_some]) ?_
  by_cases h : -4611686018427387903 ≤ sat a + sat b ∧ sat a + sat b ≤ 4611686018427387903
  · rw [decide_eq_true h]
    have hadd : addL a b = sat a + sat b := sat_id h.1 h.2
    refine ev_pos rfl (ev_pos hadd ?_)
    rw [sub_f]
    refine ev_bsome ?_
    have hs : subL (addL a b) b = sat a := by
      unfold subL
      rw [hadd, sat_id h.1 h.2, show sat a + sat b - sat b = sat a by omega, sat_id a0 a1]
    rw [hs]
    refine Ev.congr (f := fun k => tocsinlaw01_FixedWithin.j2 k a n (sat a) false) (fun k => by simp) (within_j2 a n hn1)
  · rw [decide_eq_false h]
    exact ev_neg (by simp) (within_j2 a n hn1)
theorem within_j0 (a b n : Int) (hn1 : n ≤ 9223372036854775807) : Ev (fun k => tocsinlaw01_FixedWithin.j0 k a b n (sat a) (sat b) (addL a b) (subL a b) false) true := by
  obtain ⟨a0, a1⟩ := sat_range a
  obtain ⟨b0, b1⟩ := sat_range b
  refine Ev.step (fun k => by rw [tocsinlaw01_FixedWithin.j0, if_neg (by simp), within_f, Option.bind_some]) ?_
  refine ev_neg ?_ ?_
  · rcases sat_cases a with ⟨h, e⟩ | ⟨h, e⟩ | ⟨h, h', e⟩
    · rw [e, decide_eq_false (by omega)]
      have : ((4611686018427387903 : Int) == a) = false := beq_eq_false_iff_ne.mpr (by omega)
      simp [this]
    · rw [e, decide_eq_false (by omega)]
      have : ((-4611686018427387903 : Int) == a) = false := beq_eq_false_iff_ne.mpr (by omega)
      simp [this]
    · rw [e, decide_eq_true ⟨h, h'⟩]
      simp
  · have hadd : addL a b = addL b a := by unfold addL; rw [Int.add_comm]
    have hsub : subL a b = wrap64 (-(subL b a)) := by
      have r := sat_range (sat b - sat a)
      have e : subL a b = -(subL b a) := by
        unfold subL
        rcases sat_cases (sat a - sat b) with ⟨h, e⟩ | ⟨h, e⟩ | ⟨h, h', e⟩ <;> rcases sat_cases (sat b - sat a) with ⟨g, f⟩ | ⟨g, f⟩ | ⟨g, g', f⟩ <;> omega
      unfold subL at e ⊢
      rw [w64 (by omega) (by omega)]
      exact e
    rw [add_f, sub_f]
    refine ev_bsome (ev_pos hadd (ev_bsome (ev_pos hsub ?_)))
    rw [sat_f, sat_id a0 a1]
    refine ev_bsome ?_
    exact Ev.congr (f := fun k => tocsinlaw01_FixedWithin.j1 k a b n (sat a) (sat b) (addL a b) false) (fun k => by simp) (within_j1 a b n hn1)
theorem FixedWithin : tocsinlaw01_FixedWithin.Pure := by
  intro a b n _ _ wn
  refine Ev.rounds ?_
  unfold tocsinlaw01_FixedWithin.f
  refine Ev.bind awake (ev_pos rfl ?_)
  rw [sat_f, sat_f, add_f, sub_f, mean_f]
  refine ev_bsome (ev_bsome (ev_bsome (ev_bsome ?_)))
  rw [within_true (sat_range a)]
  refine ev_bsome (ev_pos rfl ?_)
  rw [within_true (show Within (addL a b) from sat_range _)]
  refine ev_bsome (ev_pos rfl ?_)
  rw [within_true (show Within (subL a b) from sat_range _)]
  refine ev_bsome (ev_pos rfl (ev_bsome ?_))
  rw [within_true (mean_within a n)]
  refine ev_bsome (ev_pos rfl ?_)
  refine Ev.bind (sum_ev [a, b, a, b] (by simp)) ?_
  rw [within_true (sum_within _ _ ⟨by omega, by omega⟩)]
  exact ev_bsome (within_j0 a b n (wf_bounds wn).2)
end Go.Proofs.YtpmehejlamddeaaDoor.Pure

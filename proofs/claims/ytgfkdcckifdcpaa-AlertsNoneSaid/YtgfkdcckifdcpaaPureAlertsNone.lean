/- The pure statement of AlertsNone: without keys nothing is pending or firing, and what is quiet was told not long ago. -/
import Derived.Test.YtgfkdcckifdcpaaQ12
import Derived.Test.YtgfkdcckifdcpaaBaseP
import Derived.Test.YtgfkdcckifdcpaaAwakeP
namespace Go.Proofs.Ytgfkdcckifdcpaa.Pure
open Go.RowKit Go.Proofs.YtgfkdcckifdcpaaW.PrintWords Go.Proofs.YtgfkdcckifdcpaaW.PrintLast Go.Proofs.Ytgfkdcckifdcpaa.Q
set_option linter.unusedVariables false
set_option linter.unusedSimpArgs false

def Quiet (rp at_ : Int) (y : S36) : Prop := y.f2 = 0 ∧ y.f3 = 0 ∧ 0 ≤ y.f4 ∧ wrap64 (at_ - y.f4) < rp
theorem quiet_all (l : List S36) (rule fm rp at_ : Int) : ∀ y ∈ stepL l rule fm rp at_ [], Quiet rp at_ y := by
  intro y hy
  have h := (mem_step.1 hy).2
  unfold alertOf at h
  rw [if_neg (by simp [hasK])] at h
  split at h
  · cases h
  · split at h
    · rename_i x _ hc
      injection h with h
      rw [← h]
      exact ⟨rfl, rfl, hc.1, hc.2⟩
    · cases h
theorem none_l1 (l0 : List S36) (rp at_ : Int) (l : List S36) (hl : l.length ≤ 1000) (hq : ∀ y ∈ l, Quiet rp at_ y) (hlen : l.length ≤ l0.length) : ∀ (d : Nat) (x : Int), 0 ≤ x → x ≤ l.length → (l.length : Int) - x = d → Ev (fun k => tocsinlaw22_AlertsNone.l1 k l0 rp at_ l x) true := by
  intro d
  induction d with
  | zero =>
    intro x h0 h1 hd
    have hf : firingL l = [] := by
      unfold firingL
      rw [List.filter_eq_nil_iff.2 (fun y hy => by simp [(hq y hy).1])]
      rfl
    refine Ev.step (fun k => by rw [tocsinlaw22_AlertsNone.l1, if_neg (by omega)]) ?_
    refine Ev.bind (firing_ev l (by omega)) ?_
    rw [hf]
    exact ev_pos rfl (ev_some (decide_eq_true (by omega)))
  | succ d ih =>
    intro x h0 h1 hd
    have hx : x < l.length := by omega
    obtain ⟨q1, q2, q3, q4⟩ := hq _ (rd36_mem h0 hx)
    exact Ev.step (fun k => by rw [tocsinlaw22_AlertsNone.l1, if_pos hx, if_pos h0, if_pos q1, if_pos q2, if_neg (by omega), if_neg (by omega), w64 (x := x + 1) (by omega) (by omega)]) (ih (x + 1) (by omega) (by omega) (by omega))
theorem none_l0 (l : List S36) (rule fm rp at_ : Int) (hl : l.length ≤ 200) (hg : ∀ y ∈ l, good36 y) : ∀ (d : Nat) (x : Int), 0 ≤ x → x ≤ l.length → (l.length : Int) - x = d → Ev (fun k => tocsinlaw22_AlertsNone.l0 k l rule fm rp at_ x) true := by
  intro d
  induction d with
  | zero =>
    intro x h0 h1 hd
    have hn := step_length l rule fm rp at_ []
    refine Ev.step (fun k => by rw [tocsinlaw22_AlertsNone.l0, if_neg (by omega), step_f l rule fm rp at_ [] (by omega) (by simp) (fun y hy => (hg y hy).2.1) (by simp), Option.bind_some]) ?_
    simp only [List.length_nil, Nat.add_zero] at hn
    exact none_l1 l rp at_ _ (by omega) (quiet_all l rule fm rp at_) hn _ 0 (by omega) (by omega) rfl
  | succ d ih =>
    intro x h0 h1 hd
    have hx : x < l.length := by omega
    by_cases a : smallB (rd_T36 l x).f3 = true
    · by_cases b : smallB (rd_T36 l x).f4 = true
      · exact Ev.step (fun k => by rw [tocsinlaw22_AlertsNone.l0, if_pos hx, if_pos h0, small_f, Option.bind_some, if_pos a, small_f, Option.bind_some, if_pos b, w64 (x := x + 1) (by omega) (by omega)]) (ih (x + 1) (by omega) (by omega) (by omega))
      · exact Ev.step (fun k => by rw [tocsinlaw22_AlertsNone.l0, if_pos hx, if_pos h0, small_f, Option.bind_some, if_pos a, small_f, Option.bind_some, if_neg b]) (Ev.now _)
    · exact Ev.step (fun k => by rw [tocsinlaw22_AlertsNone.l0, if_pos hx, if_pos h0, small_f, Option.bind_some, if_neg a]) (Ev.now _)
theorem AlertsNone : tocsinlaw22_AlertsNone.Pure := by
  intro l a1 a2 a3 a4 _ _ hg _ _ _ _
  refine Ev.rounds ?_
  unfold tocsinlaw22_AlertsNone.f
  have hj : Ev (fun k => tocsinlaw22_AlertsNone.j0 k l a1 a2 a3 a4 true) true := Ev.step (fun k => by rw [tocsinlaw22_AlertsNone.j0, if_pos rfl]) (Ev.now _)
  refine Ev.bind awake (ev_pos rfl ?_)
  obtain ⟨r, hr, hs⟩ := great l []
  refine Ev.bind hr ?_
  cases r with
  | true => exact ev_pos rfl hj
  | false =>
    refine ev_neg (by simp) ?_
    rw [small_f, small_f, small_f]
    refine ev_bsome ?_
    by_cases b2 : smallB a2 = true
    · refine ev_pos b2 (ev_bsome ?_)
      by_cases b3 : smallB a3 = true
      · refine ev_pos b3 (ev_bsome ?_)
        cases b4 : smallB a4 with
        | false => exact hj
        | true => exact Ev.step (fun k => by rw [tocsinlaw22_AlertsNone.j0, if_neg (by simp)]) (none_l0 l a1 a2 a3 a4 (hs rfl).1 hg l.length 0 (by omega) (by omega) (by omega))
      · exact ev_neg b3 hj
    · exact ev_neg b2 hj
end Go.Proofs.Ytgfkdcckifdcpaa.Pure

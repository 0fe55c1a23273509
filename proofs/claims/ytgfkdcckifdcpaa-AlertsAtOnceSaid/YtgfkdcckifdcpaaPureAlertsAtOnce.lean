/- The pure statement of AlertsAtOnce: from nothing all keys fire, or none does. -/
import Derived.Test.YtgfkdcckifdcpaaQ13
import Derived.Test.YtgfkdcckifdcpaaBaseP
import Derived.Test.YtgfkdcckifdcpaaAwakeP
namespace Go.Proofs.Ytgfkdcckifdcpaa.Pure
open Go.RowKit Go.Proofs.YtgfkdcckifdcpaaW.PrintWords Go.Proofs.YtgfkdcckifdcpaaW.PrintLast Go.Proofs.Ytgfkdcckifdcpaa.Q
set_option linter.unusedVariables false
set_option linter.unusedSimpArgs false

theorem wrap_self (a : Int) : wrap64 (a - a) = 0 := by rw [Int.sub_self]; exact w64 (by omega) (by omega)
theorem once_alert (rule fm rp at_ : Int) (keys : List ByteArray) (n : List UInt8) (h : hasK keys n = true) : alertOf [] rule fm rp at_ keys n = some ⟨rule, ⟨n.toArray⟩, if fm ≤ 0 then 2 else 1, at_, -1⟩ := by
  unfold alertOf
  rw [if_pos h]
  simp only [findA, List.find?_nil, wrap_self]
theorem once_all {rule fm rp at_ : Int} {keys : List ByteArray} : ∀ y ∈ stepL [] rule fm rp at_ keys, y.f2 = (if fm ≤ 0 then 2 else 1) ∧ y.f3 = at_ ∧ y.f4 = -1 ∧ hasK keys y.f1.data.toList = true := by
  intro y hy
  obtain ⟨h1, h2⟩ := mem_step.1 hy
  rw [mem_names] at h1
  have h3 : hasK keys y.f1.data.toList = true := by
    rcases h1 with ⟨x, hx, _⟩ | h1
    · simp at hx
    · exact h1
  rw [once_alert _ _ _ _ _ _ h3] at h2
  injection h2 with h2
  rw [← h2] at h3 ⊢
  exact ⟨rfl, rfl, rfl, h3⟩
theorem once_mem {rule fm rp at_ : Int} {keys : List ByteArray} {s : ByteArray} (h : s ∈ keys) : ∃ y ∈ stepL [] rule fm rp at_ keys, y.f1.data.toList = s.data.toList := by
  have h3 : hasK keys s.data.toList = true := (hasK_iff _ _).2 ⟨s, h, rfl⟩
  exact ⟨⟨rule, ⟨s.data.toList.toArray⟩, if fm ≤ 0 then 2 else 1, at_, -1⟩, mem_step.2 ⟨(mem_names _ _ _ _).2 (.inr h3), once_alert rule fm rp at_ keys _ h3⟩, rfl⟩
theorem once_l1 (fm : Int) (keys : List ByteArray) (l : List S36) (hk : keys.length ≤ 200) (hl : l.length ≤ 1000) (hq : ∀ y ∈ l, y.f2 = (if fm ≤ 0 then 2 else 1)) (hm : ∀ s ∈ keys, ∃ y ∈ l, y.f1.data.toList = s.data.toList) : ∀ (d : Nat) (x : Int), 0 ≤ x → x ≤ keys.length → (keys.length : Int) - x = d → Ev (fun k => tocsinlaw22_AlertsAtOnce.l1 k fm keys l (firingL l) x) true := by
  have hfp : fm ≤ 0 → firingL l = l.map fun y => y.f1 := by
    intro h
    unfold firingL
    rw [List.filter_eq_self.2 fun y hy => by simp [hq y hy, h]]
  have hfn : ¬ fm ≤ 0 → firingL l = [] := by
    intro h
    unfold firingL
    rw [List.filter_eq_nil_iff.2 fun y hy => by simp [hq y hy, h]]
    rfl
  have hfl : (firingL l).length ≤ l.length := by
    unfold firingL
    rw [List.length_map]
    exact List.length_filter_le _ _
  intro d
  induction d with
  | zero =>
    intro x h0 h1 hd
    refine Ev.step (fun k => by rw [tocsinlaw22_AlertsAtOnce.l1, if_neg (by omega)]) ?_
    by_cases a : fm ≤ 0
    · refine ev_neg (by omega) (ev_pos a (ev_some ?_))
      rw [hfp a, List.length_map]
      simp
    · refine ev_pos (by omega) (ev_pos ?_ (Ev.now _))
      rw [hfn a]
      rfl
  | succ d ih =>
    intro x h0 h1 hd
    have hx : x < keys.length := by omega
    have hs := rdS_mem h0 hx
    have hb : hasK (firingL l) (rdOf ByteArray.empty keys x).data.toList = decide (fm ≤ 0) := by
      by_cases a : fm ≤ 0
      · rw [decide_eq_true a, hasK_iff, hfp a]
        obtain ⟨y, hy, hn⟩ := hm _ hs
        exact ⟨y.f1, List.mem_map_of_mem hy, hn⟩
      · rw [decide_eq_false a, hfn a]
        rfl
    refine Ev.step (fun k => by rw [tocsinlaw22_AlertsAtOnce.l1, if_pos hx, if_pos h0]) ?_
    refine Ev.bind (has_ev (firingL l) _ (by omega)) ?_
    rw [hb]
    refine ev_neg (by simp) ?_
    rw [w64 (x := x + 1) (by omega) (by omega)]
    exact ih (x + 1) (by omega) (by omega) (by omega)
theorem once_l0 (fm at_ : Int) (keys : List ByteArray) (l : List S36) (hk : keys.length ≤ 200) (hl : l.length ≤ 1000) (hq : ∀ y ∈ l, y.f2 = (if fm ≤ 0 then 2 else 1) ∧ y.f3 = at_ ∧ y.f4 = -1 ∧ hasK keys y.f1.data.toList = true) (hm : ∀ s ∈ keys, ∃ y ∈ l, y.f1.data.toList = s.data.toList) : ∀ (d : Nat) (x : Int), 0 ≤ x → x ≤ l.length → (l.length : Int) - x = d → Ev (fun k => tocsinlaw22_AlertsAtOnce.l0 k fm at_ keys l (firingL l) x) true := by
  intro d
  induction d with
  | zero =>
    intro x h0 h1 hd
    exact Ev.step (fun k => by rw [tocsinlaw22_AlertsAtOnce.l0, if_neg (by omega)]) (once_l1 fm keys l hk hl (fun y hy => (hq y hy).1) hm keys.length 0 (by omega) (by omega) (by omega))
  | succ d ih =>
    intro x h0 h1 hd
    have hx : x < l.length := by omega
    obtain ⟨q1, q2, q3, q4⟩ := hq _ (rd36_mem h0 hx)
    refine Ev.step (fun k => by rw [tocsinlaw22_AlertsAtOnce.l0, if_pos hx, if_pos h0, if_pos q2, if_pos q3]) ?_
    refine Ev.bind (has_ev keys _ (by omega)) (ev_pos q4 ?_)
    rw [w64 (x := x + 1) (by omega) (by omega)]
    exact ih (x + 1) (by omega) (by omega) (by omega)
theorem AlertsAtOnce : tocsinlaw22_AlertsAtOnce.Pure := by
  intro a0 a1 a2 l3 _ _ _ _ _ hg
  refine Ev.rounds ?_
  unfold tocsinlaw22_AlertsAtOnce.f
  have hj : Ev (fun k => tocsinlaw22_AlertsAtOnce.j0 k a0 a1 a2 l3 true) true := Ev.step (fun k => by rw [tocsinlaw22_AlertsAtOnce.j0, if_pos rfl]) (Ev.now _)
  refine Ev.bind awake (ev_pos rfl ?_)
  obtain ⟨r, hr, hs⟩ := great [] l3
  refine Ev.bind hr ?_
  cases r with
  | true => exact ev_pos rfl hj
  | false =>
    have hk := (hs rfl).2
    refine ev_neg (by simp) ?_
    rw [small_f, small_f]
    refine ev_bsome ?_
    by_cases b2 : smallB a1 = true
    · refine ev_pos b2 (ev_bsome ?_)
      cases b4 : smallB a2 with
      | false => exact hj
      | true =>
        have hn := step_length [] a0 a1 1 a2 l3
        simp only [List.length_nil, Nat.zero_add] at hn
        refine Ev.step (fun k => by rw [tocsinlaw22_AlertsAtOnce.j0, if_neg (by simp), step_f [] a0 a1 1 a2 l3 (by simp) (by omega) (by simp) hg, Option.bind_some]) ?_
        refine Ev.bind (firing_ev _ (by omega)) ?_
        exact once_l0 a1 a2 l3 _ hk (by omega) once_all (fun s h => once_mem h) _ 0 (by omega) (by omega) rfl
    · exact ev_neg b2 hj
end Go.Proofs.Ytgfkdcckifdcpaa.Pure

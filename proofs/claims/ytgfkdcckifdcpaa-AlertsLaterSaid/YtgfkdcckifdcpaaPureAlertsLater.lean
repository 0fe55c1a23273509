/- The pure statement of AlertsLater: at a second instant with the same keys all that held stays, and fires just if it has held For minutes. -/
import Derived.Test.YtgfkdcckifdcpaaQ8
import Derived.Test.YtgfkdcckifdcpaaBaseP
import Derived.Test.YtgfkdcckifdcpaaAwakeP
namespace Go.Proofs.Ytgfkdcckifdcpaa.Pure
open Go.RowKit Go.Proofs.YtgfkdcckifdcpaaW.PrintWords Go.Proofs.YtgfkdcckifdcpaaW.PrintLast Go.Proofs.Ytgfkdcckifdcpaa.Q
set_option linter.unusedVariables false
set_option linter.unusedSimpArgs false

/-- What a list of alerts of one rule is after a step: names that rise, and those that hold are not quiet. -/
def Stepped (rule : Int) (keys : List ByteArray) (l : List S36) : Prop :=
  (l.map fun y => y.f1.data.toList).Pairwise Lt ∧ (∀ y ∈ l, y.f0 = rule) ∧ ∀ y ∈ l, hasK keys y.f1.data.toList = true → y.f2 ≠ 0
theorem state_ne (c : Prop) [Decidable c] : (if c then (2 : Int) else 1) ≠ 0 := by
  split <;> decide
theorem stepped (l : List S36) (rule fm rp at_ : Int) (keys : List ByteArray) : Stepped rule keys (stepL l rule fm rp at_ keys) := by
  refine ⟨rise_step _ _ _ _ _ _, fun y hy => (alert_name (mem_step.1 hy).2).2, fun y hy h => ?_⟩
  have h2 := (mem_step.1 hy).2
  unfold alertOf at h2
  rw [if_pos h] at h2
  injection h2 with h2
  rw [← h2]
  exact state_ne _
theorem later_mem {rule : Int} {keys : List ByteArray} {l : List S36} (hl : Stepped rule keys l) {y : S36} (hy : y ∈ l) (h : hasK keys y.f1.data.toList = true) (fm rp at_ : Int) :
    ∃ z ∈ stepL l rule fm rp at_ keys, z.f1.data.toList = y.f1.data.toList ∧ z.f3 = y.f3 ∧ z.f4 = y.f4 ∧ z.f2 = if fm ≤ wrap64 (at_ - y.f3) then 2 else 1 := by
  have hf : findA l rule y.f1.data.toList = some y := find_unique hl.2.1 (rise_nodup hl.1) hy
  refine ⟨⟨rule, ⟨y.f1.data.toList.toArray⟩, if fm ≤ wrap64 (at_ - y.f3) then 2 else 1, y.f3, y.f4⟩, mem_step.2 ⟨?_, ?_⟩, ?_⟩
  · exact (mem_names _ _ _ _).2 (.inr h)
  · show alertOf l rule fm rp at_ keys y.f1.data.toList = _
    unfold alertOf
    rw [if_pos h, hf]
    simp only [if_neg (hl.2.2 y hy h)]
  · exact ⟨rfl, rfl, rfl, rfl⟩
theorem later_l2 (fm at_ more : Int) (keys : List ByteArray) (l m : List S36) (hm : m.length ≤ 1000) (hrm : (m.map fun y => y.f1.data.toList).Pairwise Lt) (x p : Int) (hx0 : 0 ≤ x) (hx : x < l.length) (hp0 : 0 ≤ p) (hp : p < m.length) (hn : (rd_T36 m p).f1.data.toList = (rd_T36 l x).f1.data.toList)
    (h3 : (rd_T36 m p).f3 = (rd_T36 l x).f3) (h4 : (rd_T36 m p).f4 = (rd_T36 l x).f4) (h2 : (rd_T36 m p).f2 = if fm ≤ wrap64 (wrap64 (at_ + more) - (rd_T36 l x).f3) then 2 else 1)
    (hrest : Ev (fun k => tocsinlaw22_AlertsLater.l1 k fm at_ more keys l m p (wrap64 (x + 1))) true) :
    ∀ (d : Nat) (q : Int), 0 ≤ q → q ≤ p → p - q = d → Ev (fun k => tocsinlaw22_AlertsLater.l2 k fm at_ more keys l m q x) true := by
  intro d
  induction d with
  | zero =>
    intro q hq0 hq hd
    obtain rfl : q = p := by omega
    refine Ev.step (fun k => by rw [tocsinlaw22_AlertsLater.l2, if_pos hp, if_pos hq0, if_pos hx0, if_pos hx, if_pos ((toList_eq_iff _ _).2 hn), if_neg (by omega), if_pos h3, if_pos h4]) ?_
    refine ev_neg ?_ hrest
    rw [h2, h3]
    by_cases a : fm ≤ wrap64 (wrap64 (at_ + more) - (rd_T36 l x).f3)
    · rw [if_pos a, decide_eq_true (show wrap64 (wrap64 (at_ + more) - (rd_T36 l x).f3) ≥ fm from a)]; decide
    · rw [if_neg a, decide_eq_false (show ¬ wrap64 (wrap64 (at_ + more) - (rd_T36 l x).f3) ≥ fm from a)]; decide
  | succ d ih =>
    intro q hq0 hq hd
    have hlt := rise_at hrm hq0 (show q < p by omega) hp
    have hne : (rd_T36 m q).f1.toList ≠ (rd_T36 l x).f1.toList := by
      intro h
      rw [toList_eq_iff, ← hn] at h
      exact hlt.2 h
    exact Ev.step (fun k => by rw [tocsinlaw22_AlertsLater.l2, if_pos (by omega), if_pos hq0, if_pos hx0, if_pos hx, if_neg hne, w64 (x := q + 1) (by omega) (by omega)]) (ih (q + 1) (by omega) (by omega) (by omega))
theorem later_l1 (rule fm rp at_ more : Int) (keys : List ByteArray) (l : List S36) (hl : Stepped rule keys l) (hll : l.length ≤ 400) (hk : keys.length ≤ 200) : ∀ (d : Nat) (x q : Int), 0 ≤ x → x ≤ l.length → (l.length : Int) - x = d → 0 ≤ q →
    (∀ j i : Int, 0 ≤ j → j < q → j < (stepL l rule fm rp (wrap64 (at_ + more)) keys).length → x ≤ i → i < l.length → Lt (rd_T36 (stepL l rule fm rp (wrap64 (at_ + more)) keys) j).f1.data.toList (rd_T36 l i).f1.data.toList) →
    Ev (fun k => tocsinlaw22_AlertsLater.l1 k fm at_ more keys l (stepL l rule fm rp (wrap64 (at_ + more)) keys) q x) true := by
  intro d
  induction d with
  | zero =>
    intro x q h0 h1 hd hq hinv
    exact Ev.step (fun k => by rw [tocsinlaw22_AlertsLater.l1, if_neg (by omega)]) (Ev.now _)
  | succ d ih =>
    intro x q h0 h1 hd hq hinv
    have hx : x < l.length := by omega
    have hml := step_length l rule fm rp (wrap64 (at_ + more)) keys
    have hrm := rise_step l rule fm rp (wrap64 (at_ + more)) keys
    refine Ev.step (fun k => by rw [tocsinlaw22_AlertsLater.l1, if_pos hx, if_pos h0]) ?_
    refine Ev.bind (has_ev keys _ (by omega)) ?_
    by_cases a : hasK keys (rd_T36 l x).f1.data.toList = true
    · refine ev_pos a ?_
      obtain ⟨z, hz, hn, h3, h4, h2⟩ := later_mem hl (rd36_mem h0 hx) a fm rp (wrap64 (at_ + more))
      obtain ⟨p, hp0, hp, rfl⟩ := mem_at hz
      have hqp : q ≤ p := by
        refine Int.not_lt.1 fun hlt => ?_
        have := hinv p x hp0 hlt hp (Int.le_refl _) hx
        rw [hn] at this
        exact lt_irrefl _ this
      refine later_l2 fm at_ more keys l _ (by omega) hrm x p h0 hx hp0 hp hn h3 h4 h2 ?_ (p - q).toNat q hq hqp (by omega)
      rw [w64 (x := x + 1) (by omega) (by omega)]
      refine ih (x + 1) p (by omega) (by omega) (by omega) hp0 fun j i hj0 hj hjl hi hil => ?_
      have t1 := rise_at hrm hj0 hj hp
      rw [hn] at t1
      exact lt_trans t1 (rise_at hl.1 h0 (by omega) hil)
    · refine ev_neg a ?_
      rw [w64 (x := x + 1) (by omega) (by omega)]
      exact ih (x + 1) q (by omega) (by omega) (by omega) hq fun j i hj0 hj hjl hi hil => hinv j i hj0 hj hjl (by omega) hil
theorem later_l0 (l : List S36) (rule fm at_ more : Int) (keys : List ByteArray) (hl : l.length ≤ 200) (hk : keys.length ≤ 200) (hg : ∀ y ∈ l, good36 y) (hgk : ∀ y ∈ keys, y.size ≤ 9223372036854775807) : ∀ (d : Nat) (x : Int), 0 ≤ x → x ≤ l.length → (l.length : Int) - x = d → Ev (fun k => tocsinlaw22_AlertsLater.l0 k l rule fm at_ more keys x) true := by
  intro d
  induction d with
  | zero =>
    intro x h0 h1 hd
    have hn := step_length l rule fm 1099511627776 at_ keys
    refine Ev.step (fun k => by rw [tocsinlaw22_AlertsLater.l0, if_neg (by omega), step_f l rule fm 1099511627776 at_ keys (by omega) (by omega) (fun y hy => (hg y hy).2.1) hgk, Option.bind_some, step_f _ rule fm 1099511627776 (wrap64 (at_ + more)) keys (by omega) (by omega) (step_size (fun y hy => (hg y hy).2.1) hgk) hgk, Option.bind_some]) ?_
    exact later_l1 rule fm 1099511627776 at_ more keys _ (stepped _ _ _ _ _ _) (by omega) hk _ 0 0 (by omega) (by omega) rfl (by omega) (fun j i h1 h2 => by omega)
  | succ d ih =>
    intro x h0 h1 hd
    have hx : x < l.length := by omega
    by_cases a : smallB (rd_T36 l x).f3 = true
    · by_cases b : smallB (rd_T36 l x).f4 = true
      · exact Ev.step (fun k => by rw [tocsinlaw22_AlertsLater.l0, if_pos hx, if_pos h0, small_f, Option.bind_some, if_pos a, small_f, Option.bind_some, if_pos b, w64 (x := x + 1) (by omega) (by omega)]) (ih (x + 1) (by omega) (by omega) (by omega))
      · exact Ev.step (fun k => by rw [tocsinlaw22_AlertsLater.l0, if_pos hx, if_pos h0, small_f, Option.bind_some, if_pos a, small_f, Option.bind_some, if_neg b]) (Ev.now _)
    · exact Ev.step (fun k => by rw [tocsinlaw22_AlertsLater.l0, if_pos hx, if_pos h0, small_f, Option.bind_some, if_neg a]) (Ev.now _)
theorem AlertsLater : tocsinlaw22_AlertsLater.Pure := by
  intro l a1 a2 a3 a4 l5 _ _ hg _ _ _ _ _ _ hgk
  refine Ev.rounds ?_
  unfold tocsinlaw22_AlertsLater.f
  have hj : Ev (fun k => tocsinlaw22_AlertsLater.j0 k l a1 a2 a3 a4 l5 true) true := Ev.step (fun k => by rw [tocsinlaw22_AlertsLater.j0, if_pos rfl]) (Ev.now _)
  refine Ev.bind awake (ev_pos rfl ?_)
  obtain ⟨r, hr, hs⟩ := great l l5
  refine Ev.bind hr ?_
  cases r with
  | true => exact ev_pos rfl hj
  | false =>
    refine ev_neg (by simp) ?_
    rw [small_f, small_f]
    refine ev_bsome ?_
    by_cases b2 : smallB a2 = true
    · refine ev_pos b2 (ev_bsome ?_)
      by_cases b3 : smallB a3 = true
      · refine ev_pos b3 ?_
        by_cases b4 : a4 < 0
        · exact ev_pos b4 hj
        · refine ev_neg b4 ?_
          by_cases b5 : a4 > 1048576
          · rw [decide_eq_true b5]; exact hj
          · rw [decide_eq_false b5]
            exact Ev.step (fun k => by rw [tocsinlaw22_AlertsLater.j0, if_neg (by simp)]) (later_l0 l a1 a2 a3 a4 l5 (hs rfl).1 (hs rfl).2 hg hgk l.length 0 (by omega) (by omega) (by omega))
      · exact ev_neg b3 hj
    · exact ev_neg b2 hj
end Go.Proofs.Ytgfkdcckifdcpaa.Pure

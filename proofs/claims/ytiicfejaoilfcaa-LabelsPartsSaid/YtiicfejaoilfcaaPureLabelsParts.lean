/- The pure statement of LabelsParts: of labels that may be any that stand together may be, and each name and value may. -/
import Derived.Test.YtiicfejaoilfcaaQ28
import Derived.Test.YtiicfejaoilfcaaMayP
import Derived.Test.YtiicfejaoilfcaaAwakeP
namespace Go.Proofs.Ytiicfejaoilfcaa.Pure
open Go.RowKit Go.Proofs.YtiicfejaoilfcaaW.PrintWords Go.Proofs.YtiicfejaoilfcaaW.PrintLast Go.Proofs.Ytiicfejaoilfcaa.Q
set_option linter.unusedVariables false
set_option linter.unusedSimpArgs false

theorem okL_none {p : Option S31} {l : List S31} (h : okL p l = true) : okL none l = true := by
  cases l with
  | nil => rfl
  | cons x l =>
    rw [okL.eq_def] at h ⊢
    simp only [Bool.and_eq_true] at h ⊢
    exact ⟨h.1, h.2.1, trivial, h.2.2.2⟩
theorem okL_tail {p : Option S31} {x : S31} {l : List S31} (h : okL p (x :: l) = true) : okL none l = true := by
  rw [okL.eq_def] at h
  simp only [Bool.and_eq_true] at h
  exact okL_none h.2.2.2
theorem okL_drop {l : List S31} : ∀ n : Nat, okL none l = true → okL none (l.drop n) = true := by
  induction l with
  | nil => intro n _; simp [okL]
  | cons x l ih =>
    intro n h
    cases n with
    | zero => exact h
    | succ n => exact ih n (okL_tail h)
theorem okL_take {l : List S31} : ∀ (n : Nat) (p : Option S31), okL p l = true → okL p (l.take n) = true := by
  induction l with
  | nil => intro n p _; simp [okL]
  | cons x l ih =>
    intro n p h
    cases n with
    | zero => simp [okL]
    | succ n =>
      rw [List.take_succ_cons]
      rw [okL.eq_def] at h ⊢
      simp only [Bool.and_eq_true] at h ⊢
      exact ⟨h.1, h.2.1, h.2.2.1, ih n _ h.2.2.2⟩
theorem may_part {l : List S31} (h : mayB l = true) (a b : Nat) : mayB ((l.take b).drop a) = true := by
  unfold mayB at h ⊢
  rw [Bool.and_eq_true, decide_eq_true_eq] at h ⊢
  refine ⟨okL_drop a (okL_take b none h.1), ?_⟩
  rw [List.length_drop, List.length_take]
  omega
theorem parts_ev (l : List S31) (a b : Int) (h4 : mayB l = true) (ha : 0 ≤ a) (hab : a ≤ b) (hb : b ≤ l.length) : ∀ (d : Nat) (x : Int), 0 ≤ x → x ≤ l.length → (l.length : Int) - x = d → Ev (fun k => tocsinlaw07_LabelsParts.l0 k l a b x) true := by
  have hs := may_small h4
  intro d
  induction d with
  | zero =>
    intro x h0 h1 hd
    refine Ev.step (fun k => by rw [tocsinlaw07_LabelsParts.l0, if_neg (by omega), if_pos ha, if_pos hab, if_pos hb]) ?_
    have hm := may_part h4 a.toNat b.toNat
    refine Ev.bind (may _ (by rw [List.length_drop, List.length_take]; omega)) ?_
    rw [hm]
    exact ev_pos rfl (ev_some (by rw [decide_eq_true_eq]; omega))
  | succ d ih =>
    intro x h0 h1 hd
    have hx : x < l.length := by omega
    have hmx := hs.2 _ (rd_mem h0 hx)
    refine Ev.step (fun k => by rw [tocsinlaw07_LabelsParts.l0, if_pos hx, if_pos h0, labels_MayName.f, hmx.1, Option.bind_some, if_pos rfl, labels_MayValue.f, hmx.2, Option.bind_some, if_pos rfl, w64 (by omega) (by omega)]) ?_
    exact ih (x + 1) (by omega) (by omega) (by omega)
theorem LabelsParts : tocsinlaw07_LabelsParts.Pure := by
  intro l a b hl _ hg _ _
  refine Ev.rounds ?_
  unfold tocsinlaw07_LabelsParts.f
  refine Ev.bind awake (ev_pos rfl ?_)
  obtain ⟨r, hr, hsm⟩ := great l hg
  have hj : Ev (fun k => tocsinlaw07_LabelsParts.j0 k l a b true) true := Ev.step (fun k => by rw [tocsinlaw07_LabelsParts.j0, if_pos rfl]) (Ev.now _)
  refine Ev.bind hr ?_
  cases r with
  | true => exact ev_pos rfl hj
  | false =>
    refine ev_neg (by simp) ?_
    refine Ev.bind (may l hl) ?_
    cases hm : mayB l with
    | false => exact ev_neg (by simp) hj
    | true =>
      refine ev_pos rfl ?_
      by_cases ha : a < 0
      · exact ev_pos ha hj
      · refine ev_neg ha ?_
        by_cases hab : b < a
        · exact ev_pos hab hj
        · refine ev_neg hab ?_
          by_cases hb : b > l.length
          · rw [decide_eq_true hb]
            exact hj
          · rw [decide_eq_false hb]
            refine Ev.step (fun k => by rw [tocsinlaw07_LabelsParts.j0, if_neg (by simp)]) ?_
            exact parts_ev l a b hm (by omega) (by omega) (by omega) l.length 0 (by omega) (by omega) (by omega)
end Go.Proofs.Ytiicfejaoilfcaa.Pure

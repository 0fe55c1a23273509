/- The pure statement of LabelsBack: labels that may be, written and read again, are the same, with what stands behind; and what is read is written as it was. -/
import Derived.Test.YtiicfejaoilfcaaQ30
import Derived.Test.YtiicfejaoilfcaaPrintP
import Derived.Test.YtiicfejaoilfcaaAwakeP
namespace Go.Proofs.Ytiicfejaoilfcaa.Pure
open Go.RowKit Go.Proofs.YtiicfejaoilfcaaW.PrintWords Go.Proofs.YtiicfejaoilfcaaW.PrintLast Go.Proofs.Ytiicfejaoilfcaa.Q
set_option linter.unusedVariables false
set_option linter.unusedSimpArgs false

theorem back_j1 (s : ByteArray) (hs : s.size ≤ 140737488351232) : Ev (fun k => tocsinlaw07_LabelsBack.j1 k s false) true := by
  refine Ev.step (fun k => by rw [tocsinlaw07_LabelsBack.j1, if_neg (by simp)]) ?_
  obtain ⟨q, hq, hor⟩ := parse_sound s hs
  refine Ev.bind hq ?_
  rcases hor with rfl | ⟨l, m, hm, hB, rfl⟩
  · refine ev_neg (by decide) (ev_pos (by decide) (ev_some ?_))
    rw [ByteArray.toList_eq]
    rfl
  · refine ev_pos rfl ?_
    have hl := may_small hm
    refine Ev.bind (may l (by omega)) ?_
    rw [hm]
    refine ev_pos rfl ?_
    refine Ev.bind (print l (good_small hm)) ?_
    have h1 := printL_len (good_small hm)
    have h2 : (B s).length = (printL l ++ m).length := by rw [hB]
    rw [data_length, List.length_append] at h2
    refine ev_pos (by rw [size_str, size_str]; omega) (ev_some ?_)
    rw [beq_iff_eq, ByteArray.toList_eq, ByteArray.toList_eq]
    show B (str (printL l) ++ str m) = B s
    rw [B_app, B_str, B_str, hB]
theorem LabelsBack : tocsinlaw07_LabelsBack.Pure := by
  intro l b s hl _ hg hbs hss
  refine Ev.rounds ?_
  unfold tocsinlaw07_LabelsBack.f
  refine Ev.bind awake (ev_pos rfl ?_)
  have hj : Ev (fun k => tocsinlaw07_LabelsBack.j0 k l b s true) true := Ev.step (fun k => by rw [tocsinlaw07_LabelsBack.j0, if_pos rfl]) (Ev.now _)
  obtain ⟨r, hr, hsm⟩ := great l hg
  refine Ev.bind hr ?_
  cases r with
  | true => exact ev_pos rfl hj
  | false =>
    have hsm := hsm rfl
    refine ev_neg (by simp) ?_
    by_cases h1 : (b.size : Int) > 5000
    · exact ev_pos h1 hj
    · refine ev_neg h1 ?_
      by_cases h2 : (s.size : Int) > 5000
      · rw [decide_eq_true h2]
        exact hj
      · rw [decide_eq_false h2]
        refine Ev.step (fun k => by rw [tocsinlaw07_LabelsBack.j0, if_neg (by simp)]) ?_
        have hlen := printL_len hsm
        refine Ev.bind (print l hsm) (ev_pos (by rw [size_str]; omega) ?_)
        have hsz : (str (printL l) ++ b).size ≤ 140737488351232 := by rw [size_app, size_str]; omega
        have hB : B (str (printL l) ++ b) = printL l ++ B b := by rw [B_app, B_str]
        obtain ⟨q, hq, hor⟩ := parse_sound (str (printL l) ++ b) hsz
        refine Ev.bind hq ?_
        refine Ev.bind (may l hl) ?_
        cases hm : mayB l with
        | false => exact ev_neg (by simp) (back_j1 s hss)
        | true =>
          obtain rfl := ev_unique hq (parse_back _ hsz l (B b) hm hB)
          refine ev_pos rfl (ev_pos rfl ?_)
          obtain ⟨e, he, hi⟩ := same l l hl
          refine Ev.bind he ?_
          rw [hi.2 rfl]
          refine ev_pos rfl ?_
          rw [str_B, bne_self_eq_false]
          exact back_j1 s hss
end Go.Proofs.Ytiicfejaoilfcaa.Pure

/- The pure statement of MatchBack: matchers that may be, written and read again, are the same, with what stands behind; and what is read is written as it was. -/
import Derived.Test.YticemdlnnmndoaaQ29
import Derived.Test.YticemdlnnmndoaaParseP
import Derived.Test.YticemdlnnmndoaaAwakeP
namespace Go.Proofs.Yticemdlnnmndoaa.Pure
open Go.RowKit Go.Proofs.YticemdlnnmndoaaW.PrintWords Go.Proofs.YticemdlnnmndoaaW.PrintLast Go.Proofs.Yticemdlnnmndoaa.Q
set_option linter.unusedVariables false
set_option linter.unusedSimpArgs false

theorem back_j1 (s : ByteArray) (hs : s.size ≤ 140737488351232) : Ev (fun k => tocsinlaw08_MatchBack.j1 k s false) true := by
  refine Ev.step (fun k => by rw [tocsinlaw08_MatchBack.j1, if_neg (by simp)]) ?_
  obtain ⟨q, hq, hor⟩ := parse_sound s hs
  refine Ev.bind hq ?_
  rcases hor with rfl | ⟨l, m, hm, hB, rfl⟩
  · refine ev_neg (by decide) (ev_pos (by decide) (ev_some ?_))
    rw [ByteArray.toList_eq]
    rfl
  · refine ev_pos rfl ?_
    have hl := may_smallM hm
    refine Ev.congr (fun k => by rw [match_May.f, Option.bind_some, if_pos hm, print l hl, Option.bind_some]) ?_
    have h1 := printM_len hl
    have h2 : (B s).length = (printM l ++ m).length := by rw [hB]
    rw [data_length, List.length_append] at h2
    refine ev_pos (by rw [size_str, size_str]; omega) (ev_some ?_)
    rw [beq_iff_eq, ByteArray.toList_eq, ByteArray.toList_eq]
    show B (str (printM l) ++ str m) = B s
    rw [B_app, B_str, B_str, hB]
theorem MatchBack : tocsinlaw08_MatchBack.Pure := by
  intro l b s hl _ hg hbs hss
  refine Ev.rounds ?_
  unfold tocsinlaw08_MatchBack.f
  refine Ev.bind awake (ev_pos rfl ?_)
  have hj : Ev (fun k => tocsinlaw08_MatchBack.j0 k l b s true) true := Ev.step (fun k => by rw [tocsinlaw08_MatchBack.j0, if_pos rfl]) (Ev.now _)
  obtain ⟨r, hr, hsm⟩ := great l [] hg (by simp)
  refine Ev.bind hr ?_
  cases r with
  | true => exact ev_pos rfl hj
  | false =>
    have hsm := (hsm rfl).1
    refine ev_neg (by simp) ?_
    by_cases h1 : (b.size : Int) > 5000
    · exact ev_pos h1 hj
    · refine ev_neg h1 ?_
      by_cases h2 : (s.size : Int) > 5000
      · rw [decide_eq_true h2]
        exact hj
      · rw [decide_eq_false h2]
        have hlen := printM_len hsm
        refine Ev.step (fun k => by rw [tocsinlaw08_MatchBack.j0, if_neg (by simp), print l hsm, Option.bind_some, if_pos (by rw [size_str]; omega)]) ?_
        have hsz : (str (printM l) ++ b).size ≤ 140737488351232 := by rw [size_app, size_str]; omega
        have hB : B (str (printM l) ++ b) = printM l ++ B b := by rw [B_app, B_str]
        obtain ⟨q, hq, hor⟩ := parse_sound (str (printM l) ++ b) hsz
        refine Ev.bind hq ?_
        refine Ev.congr (fun k => by rw [match_May.f, Option.bind_some]) ?_
        cases hm : mayM l with
        | false => exact ev_neg (by simp) (back_j1 s hss)
        | true =>
          obtain rfl := ev_unique hq (parse_back _ hsz l (B b) hm hB)
          refine ev_pos rfl (ev_pos rfl ?_)
          refine Ev.bind (same30 l hl) (ev_pos rfl ?_)
          rw [str_B, bne_self_eq_false]
          exact back_j1 s hss
end Go.Proofs.Yticemdlnnmndoaa.Pure

/- The pure statement of MatchReads: the program reads as the book does, twice over, and what was told is not held. -/
import Derived.Test.YticemdlnnmndoaaQ16
import Derived.Test.YticemdlnnmndoaaRefP
namespace Go.Proofs.Yticemdlnnmndoaa.Pure
open Go.RowKit Go.Proofs.YticemdlnnmndoaaW.PrintWords Go.Proofs.YticemdlnnmndoaaW.PrintLast Go.Proofs.Yticemdlnnmndoaa.Q
set_option linter.unusedVariables false
set_option linter.unusedSimpArgs false

theorem read_l1 (s : ByteArray) (x3 : List S30) (x4 : ByteArray) (x5 x6 : Int) {r : Bool} (h : Ev (fun k => tocsinlaw08_MatchReads.l0 k s x3 x4 x5 (wrap64 (x6 + 1))) r) : ∀ (d : Nat) (l : List S30) (x : Int), l.length ≤ 6 → 0 ≤ x → x ≤ l.length → (l.length : Int) - x = d →
    Ev (fun k => tocsinlaw08_MatchReads.l1 k s x3 x4 x5 x6 l x) r := by
  intro d
  induction d with
  | zero =>
    intro l x h4 h0 h1 hd
    exact Ev.step (fun k => by rw [tocsinlaw08_MatchReads.l1, if_neg (by omega)]) h
  | succ d ih =>
    intro l x h4 h0 h1 hd
    refine Ev.step (fun k => by rw [tocsinlaw08_MatchReads.l1, if_pos (by omega), if_pos h0, w64 (by omega) (by omega)]) ?_
    exact ih _ (x + 1) (by rw [List.length_set]; exact h4) (by omega) (by rw [List.length_set]; omega) (by rw [List.length_set]; omega)
theorem MatchReads : tocsinlaw08_MatchReads.Pure := by
  intro s hs
  refine Ev.rounds ?_
  unfold tocsinlaw08_MatchReads.f
  by_cases h5 : (s.size : Int) > 5000
  · exact ev_pos h5 (Ev.now _)
  · refine ev_neg h5 ?_
    obtain ⟨q, hr, hp, h4⟩ := parse_same s hs
    refine Ev.bind hr ?_
    have hsame := same30 q.1 (by omega)
    have hgo : ∀ x6 : Int, x6 < 2 → Ev (fun k => tocsinlaw08_MatchReads.l0 k s q.1 q.2.1 q.2.2 (wrap64 (x6 + 1))) true → Ev (fun k => tocsinlaw08_MatchReads.l0 k s q.1 q.2.1 q.2.2 x6) true := by
      intro x6 hx h
      refine Ev.step (fun k => by rw [tocsinlaw08_MatchReads.l0, if_pos hx]) ?_
      refine Ev.bind hp (Ev.bind hsame (ev_pos rfl (ev_pos rfl ?_)))
      refine Ev.step (fun k => by rw [tocsinlaw08_MatchReads.j1, if_neg (by simp)]) ?_
      exact read_l1 s _ _ _ _ h q.1.length q.1 0 h4 (by omega) (by omega) (by omega)
    refine hgo 0 (by omega) ?_
    rw [show wrap64 (0 + 1) = 1 from w64 (x := 0 + 1) (by omega) (by omega)]
    refine hgo 1 (by omega) ?_
    rw [show wrap64 (1 + 1) = 2 from w64 (x := 1 + 1) (by omega) (by omega)]
    exact Ev.step (fun k => by rw [tocsinlaw08_MatchReads.l0, if_neg (by decide)]) (Ev.now _)
end Go.Proofs.Yticemdlnnmndoaa.Pure

/- The pure statement of LabelsRead: the program reads as the book does, twice over, and what was told is not held. -/
import Derived.Test.YtiicfejaoilfcaaQ18
import Derived.Test.YtiicfejaoilfcaaRefP
import Derived.Test.YtiicfejaoilfcaaAwakeP
namespace Go.Proofs.Ytiicfejaoilfcaa.Pure
open Go.RowKit Go.Proofs.YtiicfejaoilfcaaW.PrintWords Go.Proofs.YtiicfejaoilfcaaW.PrintLast Go.Proofs.Ytiicfejaoilfcaa.Q
set_option linter.unusedVariables false
set_option linter.unusedSimpArgs false

theorem read_l1 (s : ByteArray) (x3 : List S31) (x4 : ByteArray) (x5 x6 : Int) {r : Bool} (h : Ev (fun k => tocsinlaw07_LabelsRead.l0 k s x3 x4 x5 (wrap64 (x6 + 1))) r) : ∀ (d : Nat) (l : List S31) (x : Int), l.length ≤ 4 → 0 ≤ x → x ≤ l.length → (l.length : Int) - x = d →
    Ev (fun k => tocsinlaw07_LabelsRead.l1 k s x3 x4 x5 x6 l x) r := by
  intro d
  induction d with
  | zero =>
    intro l x h4 h0 h1 hd
    exact Ev.step (fun k => by rw [tocsinlaw07_LabelsRead.l1, if_neg (by omega)]) h
  | succ d ih =>
    intro l x h4 h0 h1 hd
    refine Ev.step (fun k => by rw [tocsinlaw07_LabelsRead.l1, if_pos (by omega), if_pos h0, w64 (by omega) (by omega)]) ?_
    exact ih _ (x + 1) (by rw [List.length_set]; exact h4) (by omega) (by rw [List.length_set]; omega) (by rw [List.length_set]; omega)
theorem LabelsRead : tocsinlaw07_LabelsRead.Pure := by
  intro s hs
  refine Ev.rounds ?_
  unfold tocsinlaw07_LabelsRead.f
  by_cases h5 : (s.size : Int) > 5000
  · exact ev_pos h5 (Ev.now _)
  · refine ev_neg h5 ?_
    obtain ⟨q, hr, hp, h4⟩ := parse_same s hs
    refine Ev.bind hr ?_
    have hsame : Ev (fun k => tocsinref07_Same.f k q.1 q.1) true := by
      obtain ⟨e, he, hi⟩ := same q.1 q.1 (by omega)
      rw [hi.2 rfl] at he
      exact he
    have hgo : ∀ x6 : Int, x6 < 2 → Ev (fun k => tocsinlaw07_LabelsRead.l0 k s q.1 q.2.1 q.2.2 (wrap64 (x6 + 1))) true → Ev (fun k => tocsinlaw07_LabelsRead.l0 k s q.1 q.2.1 q.2.2 x6) true := by
      intro x6 hx h
      refine Ev.step (fun k => by rw [tocsinlaw07_LabelsRead.l0, if_pos hx]) ?_
      refine Ev.bind hp (Ev.bind hsame (ev_pos rfl (ev_pos rfl ?_)))
      refine Ev.step (fun k => by rw [tocsinlaw07_LabelsRead.j1, if_neg (by simp)]) ?_
      exact read_l1 s _ _ _ _ h q.1.length q.1 0 h4 (by omega) (by omega) (by omega)
    refine hgo 0 (by omega) ?_
    rw [show wrap64 (0 + 1) = 1 from w64 (x := 0 + 1) (by omega) (by omega)]
    refine hgo 1 (by omega) ?_
    rw [show wrap64 (1 + 1) = 2 from w64 (x := 1 + 1) (by omega) (by omega)]
    exact Ev.step (fun k => by rw [tocsinlaw07_LabelsRead.l0, if_neg (by decide)]) (Ev.now _)
end Go.Proofs.Ytiicfejaoilfcaa.Pure

/- The pure statement of MatchOps: MUnlike holds just where MEqual doesn't; where MEqual holds, MPrefix does; MPrefix with the empty value always does. -/
import Derived.Test.YticemdlnnmndoaaQ31
import Derived.Test.YticemdlnnmndoaaGreatP
import Derived.Test.YticemdlnnmndoaaAwakeP
namespace Go.Proofs.Yticemdlnnmndoaa.Pure
open Go.RowKit Go.Proofs.YticemdlnnmndoaaW.PrintWords Go.Proofs.YticemdlnnmndoaaW.PrintLast Go.Proofs.Yticemdlnnmndoaa.Q
set_option linter.unusedVariables false
set_option linter.unusedSimpArgs false

theorem pre_same {v w : ByteArray} (h : v.toList = w.toList) : pre v w = true := by
  have hv : v = w := by rw [ByteArray.toList_eq, ByteArray.toList_eq] at h; exact ByteArray.ext (Array.ext' h)
  subst hv
  unfold pre strings_HasPrefix.f stringslite_HasPrefix.f
  rw [if_pos (by omega), if_pos (by omega), if_pos (by omega), Int.toNat_natCast, ByteArray.extract_zero_size]
  simp
theorem pre_empty (v : ByteArray) : pre v ⟨#[]⟩ = true := by
  unfold pre strings_HasPrefix.f stringslite_HasPrefix.f
  have h0 : (⟨#[]⟩ : ByteArray).size = 0 := rfl
  rw [if_pos (by omega), if_pos (by omega), if_pos (by omega), h0]
  simp
theorem does0 (n v : ByteArray) (l : List S44) : match_Does.f [(⟨n, 0, v⟩ : S30)] l = some ((valueL n l).toList == v.toList) := by
  unfold match_Does.f doesL okD asks Ops.lookB
  simp
theorem does1 (n v : ByteArray) (l : List S44) : match_Does.f [(⟨n, 1, v⟩ : S30)] l = some ((valueL n l).toList != v.toList) := by
  unfold match_Does.f doesL okD asks Ops.lookB
  simp
theorem does2 (n v : ByteArray) (l : List S44) : match_Does.f [(⟨n, 2, v⟩ : S30)] l = some (pre (valueL n l) v) := by
  unfold match_Does.f doesL okD asks Ops.lookB
  simp
theorem MatchOps : tocsinlaw08_MatchOps.Pure := by
  intro n v l _ _ hl _ hgl
  refine Ev.rounds ?_
  unfold tocsinlaw08_MatchOps.f
  refine Ev.bind awake (ev_pos rfl ?_)
  have hj : Ev (fun k => tocsinlaw08_MatchOps.j0 k n v l true) true := Ev.step (fun k => by rw [tocsinlaw08_MatchOps.j0, if_pos rfl]) (Ev.now _)
  obtain ⟨r, hr, hs⟩ := great [] l (by simp) hgl
  refine Ev.bind hr ?_
  cases r with
  | true => exact ev_pos rfl hj
  | false =>
    refine ev_neg (by simp) ?_
    by_cases h1 : (n.size : Int) > 5000
    · exact ev_pos h1 hj
    · refine ev_neg h1 ?_
      by_cases h2 : (v.size : Int) > 5000
      · rw [decide_eq_true h2]; exact hj
      · rw [decide_eq_false h2]
        refine Ev.step (fun k => by rw [tocsinlaw08_MatchOps.j0, if_neg (by simp), does0, Option.bind_some, does1, Option.bind_some, does2, Option.bind_some, does2, pre_empty, Option.bind_some]) ?_
        by_cases e : (valueL n l).toList = v.toList
        · rw [show ((valueL n l).toList == v.toList) = true by simpa using e, show ((valueL n l).toList != v.toList) = false by simpa using e, pre_same e]
          exact ev_pos rfl (ev_pos rfl (ev_pos rfl (ev_some rfl)))
        · rw [show ((valueL n l).toList == v.toList) = false by simpa using e, show ((valueL n l).toList != v.toList) = true by simpa using e]
          exact ev_pos rfl (ev_neg (by simp) (ev_some rfl))
end Go.Proofs.Yticemdlnnmndoaa.Pure

/- The pure statement of FixedSigns: a number's text, with a sign ahead, is that of the number taken from 0, and is read so. -/
import Derived.Test.YtpmehejlamddeaaDoorQ17
import Derived.Test.YtpmehejlamddeaaDoorBackP
import Derived.Test.YtpmehejlamddeaaDoorAwakeP
namespace Go.Proofs.YtpmehejlamddeaaDoor.Pure
open Go.RowKit Go.Proofs.YtpmehejlamddeaaDoorW.PrintWords Go.Proofs.YtpmehejlamddeaaDoorW.PrintLast Go.Proofs.YtpmehejlamddeaaDoorW.PrintMore Go.Proofs.YtpmehejlamddeaaDoor.Q
set_option linter.unusedVariables false
set_option linter.unusedSimpArgs false

theorem str_toList (l : List UInt8) : (str l).toList = l := by rw [ByteArray.toList_eq]; rfl
theorem sub_zero (a : Int) : subL 0 a = -(sat a) := by
  obtain ⟨h0, h1⟩ := sat_range a
  unfold subL
  rw [sat_id (x := 0) (by omega) (by omega), sat_id (by omega) (by omega)]
  omega
theorem FixedSigns : tocsinlaw01_FixedSigns.Pure := by
  intro a _
  obtain ⟨h0, h1⟩ := sat_range a
  refine Ev.rounds ?_
  unfold tocsinlaw01_FixedSigns.f
  refine Ev.bind awake (ev_pos rfl ?_)
  refine Ev.bind (print_ev a) ?_
  rw [sub_f, sub_zero]
  refine ev_bsome ?_
  have hp := print_ev (-(sat a))
  rw [sat_id (x := -(sat a)) (by omega) (by omega)] at hp
  refine Ev.bind hp ?_
  rcases Int.lt_trichotomy a 0 with ha | ha | ha
  · have hs : sat a < 0 := by rcases sat_cases a with ⟨_, e⟩ | ⟨_, e⟩ | ⟨_, _, e⟩ <;> omega
    have e1 : printL (sat a) = 45 :: absL (sat a).natAbs := by unfold printL; rw [if_pos hs]; rfl
    have e2 : printL (-(sat a)) = absL (sat a).natAbs := by unfold printL; rw [if_neg (by omega), Int.natAbs_neg]; rfl
    have hl := abs_length (sat a).natAbs (by omega)
    rw [e1, e2]
    refine ev_neg (by omega) (ev_neg (by omega) (ev_pos (by rw [size_str, List.length_cons]; omega) ?_))
    rw [drop_one]
    have hq := parse_ev (str (absL (sat a).natAbs)) (by rw [size_str]; omega)
    rw [B_str, parse_abs _ (by omega)] at hq
    refine Ev.bind hq (ev_pos (by rw [size_str]; omega) (ev_pos ?_ (ev_pos rfl (ev_bsome (ev_some ?_)))))
    · rw [show (⟨#[45]⟩ : ByteArray) = str [45] from rfl, str_app]
      rfl
    · rw [beq_iff_eq]
      show (((sat a).natAbs : Nat) : Int) = -(sat a)
      omega
  · subst ha
    have e0 : sat 0 = 0 := rfl
    rw [e0]
    refine ev_pos rfl (ev_pos ?_ (ev_some ?_))
    · rw [str_toList]; decide +kernel
    · rw [str_toList]; decide +kernel
  · have hs : 0 < sat a := by rcases sat_cases a with ⟨_, e⟩ | ⟨_, e⟩ | ⟨_, _, e⟩ <;> omega
    have e1 : printL (sat a) = absL (sat a).natAbs := by unfold printL; rw [if_neg (by omega)]; rfl
    have e2 : printL (-(sat a)) = 45 :: absL (sat a).natAbs := by unfold printL; rw [if_pos (by omega), Int.natAbs_neg]; rfl
    have hl := abs_length (sat a).natAbs (by omega)
    rw [e1, e2]
    refine ev_neg (by omega) (ev_pos ha (ev_pos (by rw [size_str]; omega) (ev_some ?_)))
    rw [show (⟨#[45]⟩ : ByteArray) = str [45] from rfl, str_app, beq_iff_eq]
    rfl
end Go.Proofs.YtpmehejlamddeaaDoor.Pure

/- Functions of the program as plain Lean functions, each with the proof that its call comes to just these answers: written by a program of this session (wip/tools/printg.py over the kit's print) for this claim. -/
import Derived.Test.YtibnakpefjjoiaaQ0
namespace Go.Proofs.Ytibnakpefjjoiaa.Q
open Go.RowKit Go.Proofs.YtibnakpefjjoiaaW.PrintWords Go.Proofs.YtibnakpefjjoiaaW.PrintLast Go.Proofs.YtibnakpefjjoiaaW.PrintMore
attribute [local go_sem] Opn.str_leq Opn.str_gtr Opn.str_geq max2_int min2_int max_two min_two max_three min_three max_four min_four   -- for this text's walks alone
set_option linter.unusedVariables false
set_option linter.unusedSimpArgs false

/-! ### tocsinlaw03_Great: function 21 -/
def tocsinlaw03_Great.l0 : Nat → List (S46) → Int → Int → Option (Bool)
  | 0, _, _, _ => none
  | k + 1, x0, x3, x4 => if x4 < (x0.length : Int) then (if 0 ≤ x4 then (if (((rd_T46 x0 x4).f3).length : Int) > 30000 then (some true) else (if (((rd_T46 x0 x4).f1).size : Int) > 30000 then (some true) else (if (((rd_T46 x0 x4).f2).size : Int) > 30000 then (some true) else (tocsinlaw03_Great.l0 k x0 (wrap64 ((wrap64 ((wrap64 (x3 + (((rd_T46 x0 x4).f3).length : Int))) + (((rd_T46 x0 x4).f1).size : Int))) + (((rd_T46 x0 x4).f2).size : Int))) (wrap64 (x4 + 1)))))) else (none)) else (some (decide (x3 > 30000)))
def tocsinlaw03_Great.f (k : Nat) (l0 : List (S46)) : Option (Bool) := if (l0.length : Int) > 100 then (some true) else (tocsinlaw03_Great.l0 k l0 0 0)
theorem tocsinlaw03_Great.mono_l : ∀ k, (∀ y0 y1 y2, LeO (tocsinlaw03_Great.l0 k y0 y1 y2) (tocsinlaw03_Great.l0 (k + 1) y0 y1 y2))
  | 0 => fun _ _ _ r h => by simp [tocsinlaw03_Great.l0] at h
  | k + 1 => by
    have ih0 := tocsinlaw03_Great.mono_l k
    · intro y0 y1 y2
      unfold tocsinlaw03_Great.l0
      repeat' first
      | (with_reducible exact ih0 _ _ _)
      | (with_reducible exact LeO.refl _)
      | (with_reducible exact LeO.none _)
      | (with_reducible refine LeO.ite ?_ ?_)
      | (with_reducible refine LeO.bind ?_ (fun _ => ?_))
      | exact ih0 _ _ _
      | exact LeO.none _
      | refine LeO.ite ?_ ?_
      | refine LeO.bind ?_ (fun _ => ?_)
theorem tocsinlaw03_Great.mono : ∀ a0 k, LeO (tocsinlaw03_Great.f k a0) (tocsinlaw03_Great.f (k + 1) a0) := by
  intro a0 k
  have ih0 := tocsinlaw03_Great.mono_l k
  unfold tocsinlaw03_Great.f
  repeat' first
      | (with_reducible exact ih0 _ _ _)
      | (with_reducible exact LeO.refl _)
      | (with_reducible exact LeO.none _)
      | (with_reducible refine LeO.ite ?_ ?_)
      | (with_reducible refine LeO.bind ?_ (fun _ => ?_))
      | exact ih0 _ _ _
      | exact LeO.none _
      | refine LeO.ite ?_ ?_
      | refine LeO.bind ?_ (fun _ => ?_)
set_option maxHeartbeats 8000000 in
set_option maxRecDepth 100000 in
theorem tocsinlaw03_Great.calls (k : Nat) (A0 : Option Addr) (c0 : Nat) (l0 : List (S46)) (r : Bool) (w : World) (hr0 : Kd.C k46 w A0 l0.length l0) (hc0 : l0.length ≤ c0) (h : tocsinlaw03_Great.f k l0 = some r) :
    Calls Try.prog 21 #[.slice A0 l0.length c0] w fun e w' => e = .returned (.bool r) ∧ Drawn0 w w' := by
  have HR0 := Aside0.mk hr0
  have HC0 := Aside0.mk hc0
  clear hr0 hc0
  have H : (if (l0.length : Int) > 100 then (some true) else (tocsinlaw03_Great.l0 k l0 0 0)) = some r := h
  clear h
  by_cases c2 : (l0.length : Int) > 100
  · rw [if_pos c2] at H
    have c2b0 : decide (100 < (l0.length : Int)) = true := decide_eq_true c2
    have c2b1 : decide (100 < l0.length) = true := decide_eq_true (by omega)
    clear c2
    obtain rfl := Option.some.inj H
    go_enter Try.func21, Try.ntmps21
    go_wp2
    repeat (go_quiet (fail); try go_wp2)
    go_ret
    exact ⟨by first | rfl | (simp; done) | (simp [*]; done), by repeat (first | exact Drawn0.refl _ | apply Drawn0.step)⟩
  · rw [if_neg c2] at H
    have c2b0 : decide (100 < (l0.length : Int)) = false := decide_eq_false c2
    have c2b1 : decide (100 < l0.length) = false := decide_eq_false (by omega)
    clear c2
    have H' := Aside0.mk H
    clear H
    go_enter Try.func21, Try.ntmps21
    go_wp2
    repeat (go_quiet (fail); try go_wp2)
    go_loopg [3, 4] k (fun kq v3 v4 w' => ∃ (x3_1 : Int) (x4_1 : Int), v3 = .int .i64 x3_1 ∧ v4 = .int .i64 x4_1 ∧ Aside0 (tocsinlaw03_Great.l0 kq l0 x3_1 x4_1 = some r) ∧ Aside0 (kq ≤ k) ∧ Drawn0 w w')
    case atStart => exact ⟨(0), (0), (by first | rfl | (simp; done) | (simp [*]; done)), (by first | rfl | (simp; done) | (simp [*]; done)), H', ⟨Nat.le_refl _⟩, by repeat (first | exact Drawn0.refl _ | apply Drawn0.step)⟩
    case round =>
      clear H'
      try clear c2
      try clear c2b0
      try clear c2b1
      try clear p2
      obtain ⟨x3_1, x4_1, rfl, rfl, HA, HK1, ⟨m1, rfl⟩⟩ := hrel
      cases gk with
      | zero => exact absurd HA.out (by simp [tocsinlaw03_Great.l0])
      | succ k1 =>
        have H := HA.out
        clear HA
        simp only [tocsinlaw03_Great.l0] at H
        by_cases c3 : x4_1 < (l0.length : Int)
        · rw [if_pos c3] at H
          have c3b0 : decide (x4_1 < (l0.length : Int)) = true := decide_eq_true c3
          clear c3
          by_cases c4 : 0 ≤ x4_1
          · rw [if_pos c4] at H
            have c4b0 : decide (0 ≤ x4_1) = true := decide_eq_true c4
            clear c4
            by_cases c5 : (((rd_T46 l0 x4_1).f3).length : Int) > 30000
            · rw [if_pos c5] at H
              have c5b0 : decide (30000 < (((rd_T46 l0 x4_1).f3).length : Int)) = true := decide_eq_true c5
              have c5b1 : decide (30000 < ((rd_T46 l0 x4_1).f3).length) = true := decide_eq_true (by omega)
              clear c5
              obtain rfl := Option.some.inj H
              have p223 : 0 ≤ (x4_1 : Int) := of_decide_eq_true (by first | (with_reducible assumption) | assumption)
              have q223 : x4_1 < (l0.length : Int) := of_decide_eq_true (by first | (with_reducible assumption) | assumption)
              obtain ⟨ad223, A223_3, c223_3, A223_5, c223_5, e223, hx223_0, hx223_1, hx223_2, hx223_3, hx223_4, hx223_5, hl223_3, hi223_3, hl223_5, hi223_5⟩ := at_T46 HR0.out x4_1 p223 q223
              cases e223
              have HR223_3 := Aside0.mk hi223_3
              have HC223_3 := Aside0.mk hl223_3
              clear hi223_3 hl223_3
              have HR223_5 := Aside0.mk hi223_5
              have HC223_5 := Aside0.mk hl223_5
              clear hi223_5 hl223_5
              replace p223 := eq_true p223
              replace q223 := eq_true q223
              go_wp2
              repeat (go_quiet (fail); try go_wp2)
              go_ret
              exact ⟨by first | rfl | (simp; done) | (simp [*]; done), by repeat (first | exact Drawn0.refl _ | apply Drawn0.step)⟩
            · rw [if_neg c5] at H
              have c5b0 : decide (30000 < (((rd_T46 l0 x4_1).f3).length : Int)) = false := decide_eq_false c5
              have c5b1 : decide (30000 < ((rd_T46 l0 x4_1).f3).length) = false := decide_eq_false (by omega)
              clear c5
              by_cases c6 : (((rd_T46 l0 x4_1).f1).size : Int) > 30000
              · rw [if_pos c6] at H
                have c6b0 : decide (30000 < (((rd_T46 l0 x4_1).f1).size : Int)) = true := decide_eq_true c6
                have c6b1 : decide (30000 < ((rd_T46 l0 x4_1).f1).size) = true := decide_eq_true (by omega)
                clear c6
                obtain rfl := Option.some.inj H
                have p223 : 0 ≤ (x4_1 : Int) := of_decide_eq_true (by first | (with_reducible assumption) | assumption)
                have q223 : x4_1 < (l0.length : Int) := of_decide_eq_true (by first | (with_reducible assumption) | assumption)
                obtain ⟨ad223, A223_3, c223_3, A223_5, c223_5, e223, hx223_0, hx223_1, hx223_2, hx223_3, hx223_4, hx223_5, hl223_3, hi223_3, hl223_5, hi223_5⟩ := at_T46 HR0.out x4_1 p223 q223
                cases e223
                have HR223_3 := Aside0.mk hi223_3
                have HC223_3 := Aside0.mk hl223_3
                clear hi223_3 hl223_3
                have HR223_5 := Aside0.mk hi223_5
                have HC223_5 := Aside0.mk hl223_5
                clear hi223_5 hl223_5
                replace p223 := eq_true p223
                replace q223 := eq_true q223
                have p224 : 0 ≤ (x4_1 : Int) := of_decide_eq_true (by first | (with_reducible assumption) | assumption)
                have q224 : x4_1 < (l0.length : Int) := of_decide_eq_true (by first | (with_reducible assumption) | assumption)
                obtain ⟨ad224, A224_3, c224_3, A224_5, c224_5, e224, hx224_0, hx224_1, hx224_2, hx224_3, hx224_4, hx224_5, hl224_3, hi224_3, hl224_5, hi224_5⟩ := at_T46 HR0.out x4_1 p224 q224
                obtain rfl : ad223 = ad224 := (by injection e224)
                have HR224_3 := Aside0.mk hi224_3
                have HC224_3 := Aside0.mk hl224_3
                clear hi224_3 hl224_3
                have HR224_5 := Aside0.mk hi224_5
                have HC224_5 := Aside0.mk hl224_5
                clear hi224_5 hl224_5
                replace p224 := eq_true p224
                replace q224 := eq_true q224
                have ea_ := Option.some.inj (hx223_3.symm.trans hx224_3)
                injection ea_ with ea_ en_ ec_
                subst ea_
                subst ec_
                clear en_
                have ea_ := Option.some.inj (hx223_5.symm.trans hx224_5)
                injection ea_ with ea_ en_ ec_
                subst ea_
                subst ec_
                clear en_
                go_wp2
                repeat (go_quiet (fail); try go_wp2)
                go_ret
                exact ⟨by first | rfl | (simp; done) | (simp [*]; done), by repeat (first | exact Drawn0.refl _ | apply Drawn0.step)⟩
              · rw [if_neg c6] at H
                have c6b0 : decide (30000 < (((rd_T46 l0 x4_1).f1).size : Int)) = false := decide_eq_false c6
                have c6b1 : decide (30000 < ((rd_T46 l0 x4_1).f1).size) = false := decide_eq_false (by omega)
                clear c6
                by_cases c7 : (((rd_T46 l0 x4_1).f2).size : Int) > 30000
                · rw [if_pos c7] at H
                  have c7b0 : decide (30000 < (((rd_T46 l0 x4_1).f2).size : Int)) = true := decide_eq_true c7
                  have c7b1 : decide (30000 < ((rd_T46 l0 x4_1).f2).size) = true := decide_eq_true (by omega)
                  clear c7
                  obtain rfl := Option.some.inj H
                  have p223 : 0 ≤ (x4_1 : Int) := of_decide_eq_true (by first | (with_reducible assumption) | assumption)
                  have q223 : x4_1 < (l0.length : Int) := of_decide_eq_true (by first | (with_reducible assumption) | assumption)
                  obtain ⟨ad223, A223_3, c223_3, A223_5, c223_5, e223, hx223_0, hx223_1, hx223_2, hx223_3, hx223_4, hx223_5, hl223_3, hi223_3, hl223_5, hi223_5⟩ := at_T46 HR0.out x4_1 p223 q223
                  cases e223
                  have HR223_3 := Aside0.mk hi223_3
                  have HC223_3 := Aside0.mk hl223_3
                  clear hi223_3 hl223_3
                  have HR223_5 := Aside0.mk hi223_5
                  have HC223_5 := Aside0.mk hl223_5
                  clear hi223_5 hl223_5
                  replace p223 := eq_true p223
                  replace q223 := eq_true q223
                  have p224 : 0 ≤ (x4_1 : Int) := of_decide_eq_true (by first | (with_reducible assumption) | assumption)
                  have q224 : x4_1 < (l0.length : Int) := of_decide_eq_true (by first | (with_reducible assumption) | assumption)
                  obtain ⟨ad224, A224_3, c224_3, A224_5, c224_5, e224, hx224_0, hx224_1, hx224_2, hx224_3, hx224_4, hx224_5, hl224_3, hi224_3, hl224_5, hi224_5⟩ := at_T46 HR0.out x4_1 p224 q224
                  obtain rfl : ad223 = ad224 := (by injection e224)
                  have HR224_3 := Aside0.mk hi224_3
                  have HC224_3 := Aside0.mk hl224_3
                  clear hi224_3 hl224_3
                  have HR224_5 := Aside0.mk hi224_5
                  have HC224_5 := Aside0.mk hl224_5
                  clear hi224_5 hl224_5
                  replace p224 := eq_true p224
                  replace q224 := eq_true q224
                  have ea_ := Option.some.inj (hx223_3.symm.trans hx224_3)
                  injection ea_ with ea_ en_ ec_
                  subst ea_
                  subst ec_
                  clear en_
                  have ea_ := Option.some.inj (hx223_5.symm.trans hx224_5)
                  injection ea_ with ea_ en_ ec_
                  subst ea_
                  subst ec_
                  clear en_
                  have p225 : 0 ≤ (x4_1 : Int) := of_decide_eq_true (by first | (with_reducible assumption) | assumption)
                  have q225 : x4_1 < (l0.length : Int) := of_decide_eq_true (by first | (with_reducible assumption) | assumption)
                  obtain ⟨ad225, A225_3, c225_3, A225_5, c225_5, e225, hx225_0, hx225_1, hx225_2, hx225_3, hx225_4, hx225_5, hl225_3, hi225_3, hl225_5, hi225_5⟩ := at_T46 HR0.out x4_1 p225 q225
                  obtain rfl : ad223 = ad225 := (by injection e225)
                  have HR225_3 := Aside0.mk hi225_3
                  have HC225_3 := Aside0.mk hl225_3
                  clear hi225_3 hl225_3
                  have HR225_5 := Aside0.mk hi225_5
                  have HC225_5 := Aside0.mk hl225_5
                  clear hi225_5 hl225_5
                  replace p225 := eq_true p225
                  replace q225 := eq_true q225
                  have ea_ := Option.some.inj (hx223_3.symm.trans hx225_3)
                  injection ea_ with ea_ en_ ec_
                  subst ea_
                  subst ec_
                  clear en_
                  have ea_ := Option.some.inj (hx223_5.symm.trans hx225_5)
                  injection ea_ with ea_ en_ ec_
                  subst ea_
                  subst ec_
                  clear en_
                  go_wp2
                  repeat (go_quiet (fail); try go_wp2)
                  go_ret
                  exact ⟨by first | rfl | (simp; done) | (simp [*]; done), by repeat (first | exact Drawn0.refl _ | apply Drawn0.step)⟩
                · rw [if_neg c7] at H
                  have c7b0 : decide (30000 < (((rd_T46 l0 x4_1).f2).size : Int)) = false := decide_eq_false c7
                  have c7b1 : decide (30000 < ((rd_T46 l0 x4_1).f2).size) = false := decide_eq_false (by omega)
                  clear c7
                  have H' := Aside0.mk H
                  clear H
                  have p223 : 0 ≤ (x4_1 : Int) := of_decide_eq_true (by first | (with_reducible assumption) | assumption)
                  have q223 : x4_1 < (l0.length : Int) := of_decide_eq_true (by first | (with_reducible assumption) | assumption)
                  obtain ⟨ad223, A223_3, c223_3, A223_5, c223_5, e223, hx223_0, hx223_1, hx223_2, hx223_3, hx223_4, hx223_5, hl223_3, hi223_3, hl223_5, hi223_5⟩ := at_T46 HR0.out x4_1 p223 q223
                  cases e223
                  have HR223_3 := Aside0.mk hi223_3
                  have HC223_3 := Aside0.mk hl223_3
                  clear hi223_3 hl223_3
                  have HR223_5 := Aside0.mk hi223_5
                  have HC223_5 := Aside0.mk hl223_5
                  clear hi223_5 hl223_5
                  replace p223 := eq_true p223
                  replace q223 := eq_true q223
                  have p224 : 0 ≤ (x4_1 : Int) := of_decide_eq_true (by first | (with_reducible assumption) | assumption)
                  have q224 : x4_1 < (l0.length : Int) := of_decide_eq_true (by first | (with_reducible assumption) | assumption)
                  obtain ⟨ad224, A224_3, c224_3, A224_5, c224_5, e224, hx224_0, hx224_1, hx224_2, hx224_3, hx224_4, hx224_5, hl224_3, hi224_3, hl224_5, hi224_5⟩ := at_T46 HR0.out x4_1 p224 q224
                  obtain rfl : ad223 = ad224 := (by injection e224)
                  have HR224_3 := Aside0.mk hi224_3
                  have HC224_3 := Aside0.mk hl224_3
                  clear hi224_3 hl224_3
                  have HR224_5 := Aside0.mk hi224_5
                  have HC224_5 := Aside0.mk hl224_5
                  clear hi224_5 hl224_5
                  replace p224 := eq_true p224
                  replace q224 := eq_true q224
                  have ea_ := Option.some.inj (hx223_3.symm.trans hx224_3)
                  injection ea_ with ea_ en_ ec_
                  subst ea_
                  subst ec_
                  clear en_
                  have ea_ := Option.some.inj (hx223_5.symm.trans hx224_5)
                  injection ea_ with ea_ en_ ec_
                  subst ea_
                  subst ec_
                  clear en_
                  have p225 : 0 ≤ (x4_1 : Int) := of_decide_eq_true (by first | (with_reducible assumption) | assumption)
                  have q225 : x4_1 < (l0.length : Int) := of_decide_eq_true (by first | (with_reducible assumption) | assumption)
                  obtain ⟨ad225, A225_3, c225_3, A225_5, c225_5, e225, hx225_0, hx225_1, hx225_2, hx225_3, hx225_4, hx225_5, hl225_3, hi225_3, hl225_5, hi225_5⟩ := at_T46 HR0.out x4_1 p225 q225
                  obtain rfl : ad223 = ad225 := (by injection e225)
                  have HR225_3 := Aside0.mk hi225_3
                  have HC225_3 := Aside0.mk hl225_3
                  clear hi225_3 hl225_3
                  have HR225_5 := Aside0.mk hi225_5
                  have HC225_5 := Aside0.mk hl225_5
                  clear hi225_5 hl225_5
                  replace p225 := eq_true p225
                  replace q225 := eq_true q225
                  have ea_ := Option.some.inj (hx223_3.symm.trans hx225_3)
                  injection ea_ with ea_ en_ ec_
                  subst ea_
                  subst ec_
                  clear en_
                  have ea_ := Option.some.inj (hx223_5.symm.trans hx225_5)
                  injection ea_ with ea_ en_ ec_
                  subst ea_
                  subst ec_
                  clear en_
                  have p226 : 0 ≤ (x4_1 : Int) := of_decide_eq_true (by first | (with_reducible assumption) | assumption)
                  have q226 : x4_1 < (l0.length : Int) := of_decide_eq_true (by first | (with_reducible assumption) | assumption)
                  obtain ⟨ad226, A226_3, c226_3, A226_5, c226_5, e226, hx226_0, hx226_1, hx226_2, hx226_3, hx226_4, hx226_5, hl226_3, hi226_3, hl226_5, hi226_5⟩ := at_T46 HR0.out x4_1 p226 q226
                  obtain rfl : ad223 = ad226 := (by injection e226)
                  have HR226_3 := Aside0.mk hi226_3
                  have HC226_3 := Aside0.mk hl226_3
                  clear hi226_3 hl226_3
                  have HR226_5 := Aside0.mk hi226_5
                  have HC226_5 := Aside0.mk hl226_5
                  clear hi226_5 hl226_5
                  replace p226 := eq_true p226
                  replace q226 := eq_true q226
                  have ea_ := Option.some.inj (hx223_3.symm.trans hx226_3)
                  injection ea_ with ea_ en_ ec_
                  subst ea_
                  subst ec_
                  clear en_
                  have ea_ := Option.some.inj (hx223_5.symm.trans hx226_5)
                  injection ea_ with ea_ en_ ec_
                  subst ea_
                  subst ec_
                  clear en_
                  have p227 : 0 ≤ (x4_1 : Int) := of_decide_eq_true (by first | (with_reducible assumption) | assumption)
                  have q227 : x4_1 < (l0.length : Int) := of_decide_eq_true (by first | (with_reducible assumption) | assumption)
                  obtain ⟨ad227, A227_3, c227_3, A227_5, c227_5, e227, hx227_0, hx227_1, hx227_2, hx227_3, hx227_4, hx227_5, hl227_3, hi227_3, hl227_5, hi227_5⟩ := at_T46 HR0.out x4_1 p227 q227
                  obtain rfl : ad223 = ad227 := (by injection e227)
                  have HR227_3 := Aside0.mk hi227_3
                  have HC227_3 := Aside0.mk hl227_3
                  clear hi227_3 hl227_3
                  have HR227_5 := Aside0.mk hi227_5
                  have HC227_5 := Aside0.mk hl227_5
                  clear hi227_5 hl227_5
                  replace p227 := eq_true p227
                  replace q227 := eq_true q227
                  have ea_ := Option.some.inj (hx223_3.symm.trans hx227_3)
                  injection ea_ with ea_ en_ ec_
                  subst ea_
                  subst ec_
                  clear en_
                  have ea_ := Option.some.inj (hx223_5.symm.trans hx227_5)
                  injection ea_ with ea_ en_ ec_
                  subst ea_
                  subst ec_
                  clear en_
                  have p228 : 0 ≤ (x4_1 : Int) := of_decide_eq_true (by first | (with_reducible assumption) | assumption)
                  have q228 : x4_1 < (l0.length : Int) := of_decide_eq_true (by first | (with_reducible assumption) | assumption)
                  obtain ⟨ad228, A228_3, c228_3, A228_5, c228_5, e228, hx228_0, hx228_1, hx228_2, hx228_3, hx228_4, hx228_5, hl228_3, hi228_3, hl228_5, hi228_5⟩ := at_T46 HR0.out x4_1 p228 q228
                  obtain rfl : ad223 = ad228 := (by injection e228)
                  have HR228_3 := Aside0.mk hi228_3
                  have HC228_3 := Aside0.mk hl228_3
                  clear hi228_3 hl228_3
                  have HR228_5 := Aside0.mk hi228_5
                  have HC228_5 := Aside0.mk hl228_5
                  clear hi228_5 hl228_5
                  replace p228 := eq_true p228
                  replace q228 := eq_true q228
                  have ea_ := Option.some.inj (hx223_3.symm.trans hx228_3)
                  injection ea_ with ea_ en_ ec_
                  subst ea_
                  subst ec_
                  clear en_
                  have ea_ := Option.some.inj (hx223_5.symm.trans hx228_5)
                  injection ea_ with ea_ en_ ec_
                  subst ea_
                  subst ec_
                  clear en_
                  go_wp2
                  repeat (go_quiet (fail); try go_wp2)
                  go_roundg k1
                  case measure => have := HK1.out; omega
                  case rel => exact ⟨(wrap64 ((wrap64 ((wrap64 (x3_1 + (((rd_T46 l0 x4_1).f3).length : Int))) + (((rd_T46 l0 x4_1).f1).size : Int))) + (((rd_T46 l0 x4_1).f2).size : Int))), (wrap64 (x4_1 + 1)), (by first | rfl | (simp; done) | (simp [*]; done)), (by first | rfl | (simp; done) | (simp [*]; done)), H', ⟨by have := HK1.out; omega⟩, by repeat (first | exact Drawn0.refl _ | apply Drawn0.step)⟩
          · rw [if_neg c4] at H
            exact absurd H (by simp)
        · rw [if_neg c3] at H
          have c3b0 : decide (x4_1 < (l0.length : Int)) = false := decide_eq_false c3
          clear c3
          obtain rfl := Option.some.inj H
          go_wp2
          repeat (go_quiet (fail); try go_wp2)
          go_ret
          exact ⟨by first | rfl | (simp; done) | (simp [*]; done), by repeat (first | exact Drawn0.refl _ | apply Drawn0.step)⟩

end Go.Proofs.Ytibnakpefjjoiaa.Q

/- Functions of the program as plain Lean functions, each with the proof that its call comes to just these answers: written by a program of this session (wip/tools/printg.py over the kit's print) for this claim. -/
import Derived.Test.YtpmehejlamddeaaDoorQ0
namespace Go.Proofs.YtpmehejlamddeaaDoor.Q
open Go.RowKit Go.Proofs.YtpmehejlamddeaaDoorW.PrintWords Go.Proofs.YtpmehejlamddeaaDoorW.PrintLast Go.Proofs.YtpmehejlamddeaaDoorW.PrintMore
attribute [local go_sem] Opn.str_leq Opn.str_gtr Opn.str_geq max2_int min2_int max_two min_two max_three min_three max_four min_four   -- for this text's walks alone
set_option linter.unusedVariables false
set_option linter.unusedSimpArgs false

/-! ### fixed_cut: function 23 -/
mutual
def fixed_cut.l0 : Nat → ByteArray → Bool → Int → Int → Int → Option (ByteArray × ByteArray × Bool)
  | 0, _, _, _, _, _ => none
  | k + 1, x0, x4, x5, x8, x9 => if x9 < x8 then (if 0 ≤ x9 then (if x9 < (x0.size : Int) then (if (bt x0 x9) ≥ 48 then (fixed_cut.j1 k x0 x4 x5 x9 x8 x9 (decide ((bt x0 x9) ≤ 57))) else (fixed_cut.j1 k x0 x4 x5 x9 x8 x9 false)) else (none)) else (none)) else (if x5 < 0 then (some (x0, (⟨#[]⟩ : ByteArray), x4)) else (if 0 ≤ x5 then (if x5 ≤ (x0.size : Int) then (if 0 ≤ (wrap64 (x5 + 1)) then (if (wrap64 (x5 + 1)) ≤ (x0.size : Int) then (if x4 = true then (if (x0.extract 0 (x5 : Int).toNat).toList = ([] : List UInt8) then (some (x0.extract 0 (x5 : Int).toNat, x0.extract ((wrap64 (x5 + 1)) : Int).toNat x0.size, false)) else (if (x0.extract ((wrap64 (x5 + 1)) : Int).toNat x0.size).toList = ([] : List UInt8) then (some (x0.extract 0 (x5 : Int).toNat, x0.extract ((wrap64 (x5 + 1)) : Int).toNat x0.size, false)) else (some (x0.extract 0 (x5 : Int).toNat, x0.extract ((wrap64 (x5 + 1)) : Int).toNat x0.size, decide (((x0.extract ((wrap64 (x5 + 1)) : Int).toNat x0.size).size : Int) ≤ 3))))) else (some (x0.extract 0 (x5 : Int).toNat, x0.extract ((wrap64 (x5 + 1)) : Int).toNat x0.size, false))) else (none)) else (none)) else (none)) else (none)))
def fixed_cut.j1 : Nat → ByteArray → Bool → Int → Int → Int → Int → Bool → Option (ByteArray × ByteArray × Bool)
  | 0, _, _, _, _, _, _, _ => none
  | k + 1, x0, x4, x5, x6, x8, x9, x12 => if x12 = true then (if x6 = (wrap64 ((x0.size : Int) - 1)) then (fixed_cut.l0 k x0 true x5 x8 (wrap64 (x9 + 1))) else (fixed_cut.l0 k x0 x4 x5 x8 (wrap64 (x9 + 1)))) else (if 0 ≤ x6 then (if x6 < (x0.size : Int) then (if (bt x0 x6) = 46 then (fixed_cut.j2 k x0 x4 x5 x6 x8 x9 (decide (x5 < 0))) else (fixed_cut.j2 k x0 x4 x5 x6 x8 x9 false)) else (none)) else (none))
def fixed_cut.j2 : Nat → ByteArray → Bool → Int → Int → Int → Int → Bool → Option (ByteArray × ByteArray × Bool)
  | 0, _, _, _, _, _, _, _ => none
  | k + 1, x0, x4, x5, x6, x8, x9, x23 => if x23 = true then (if x6 = (wrap64 ((x0.size : Int) - 1)) then (fixed_cut.l0 k x0 true x6 x8 (wrap64 (x9 + 1))) else (fixed_cut.l0 k x0 x4 x6 x8 (wrap64 (x9 + 1)))) else (if x5 < 0 then (some (x0, (⟨#[]⟩ : ByteArray), x4)) else (if 0 ≤ x5 then (if x5 ≤ (x0.size : Int) then (if 0 ≤ (wrap64 (x5 + 1)) then (if (wrap64 (x5 + 1)) ≤ (x0.size : Int) then (if x4 = true then (if (x0.extract 0 (x5 : Int).toNat).toList = ([] : List UInt8) then (some (x0.extract 0 (x5 : Int).toNat, x0.extract ((wrap64 (x5 + 1)) : Int).toNat x0.size, false)) else (if (x0.extract ((wrap64 (x5 + 1)) : Int).toNat x0.size).toList = ([] : List UInt8) then (some (x0.extract 0 (x5 : Int).toNat, x0.extract ((wrap64 (x5 + 1)) : Int).toNat x0.size, false)) else (some (x0.extract 0 (x5 : Int).toNat, x0.extract ((wrap64 (x5 + 1)) : Int).toNat x0.size, decide (((x0.extract ((wrap64 (x5 + 1)) : Int).toNat x0.size).size : Int) ≤ 3))))) else (some (x0.extract 0 (x5 : Int).toNat, x0.extract ((wrap64 (x5 + 1)) : Int).toNat x0.size, false))) else (none)) else (none)) else (none)) else (none)))
end
def fixed_cut.f (k : Nat) (a0 : ByteArray) : Option (ByteArray × ByteArray × Bool) := fixed_cut.l0 k a0 false (-1) (a0.size : Int) 0
theorem fixed_cut.mono_l : ∀ k, (∀ y0 y1 y2 y3 y4, LeO (fixed_cut.l0 k y0 y1 y2 y3 y4) (fixed_cut.l0 (k + 1) y0 y1 y2 y3 y4)) ∧ (∀ y0 y1 y2 y3 y4 y5 y6, LeO (fixed_cut.j1 k y0 y1 y2 y3 y4 y5 y6) (fixed_cut.j1 (k + 1) y0 y1 y2 y3 y4 y5 y6)) ∧ (∀ y0 y1 y2 y3 y4 y5 y6, LeO (fixed_cut.j2 k y0 y1 y2 y3 y4 y5 y6) (fixed_cut.j2 (k + 1) y0 y1 y2 y3 y4 y5 y6))
  | 0 => ⟨fun _ _ _ _ _ r h => by simp [fixed_cut.l0] at h, fun _ _ _ _ _ _ _ r h => by simp [fixed_cut.j1] at h, fun _ _ _ _ _ _ _ r h => by simp [fixed_cut.j2] at h⟩
  | k + 1 => by
    obtain ⟨ih0, ih1, ih2⟩ := fixed_cut.mono_l k
    refine ⟨?_, ?_, ?_⟩
    · intro y0 y1 y2 y3 y4
      unfold fixed_cut.l0
      repeat' first
      | (with_reducible exact ih0 _ _ _ _ _)
      | (with_reducible exact ih1 _ _ _ _ _ _ _)
      | (with_reducible exact ih2 _ _ _ _ _ _ _)
      | (with_reducible exact LeO.refl _)
      | (with_reducible exact LeO.none _)
      | (with_reducible refine LeO.ite ?_ ?_)
      | (with_reducible refine LeO.bind ?_ (fun _ => ?_))
      | exact ih0 _ _ _ _ _
      | exact ih1 _ _ _ _ _ _ _
      | exact ih2 _ _ _ _ _ _ _
      | exact LeO.none _
      | refine LeO.ite ?_ ?_
      | refine LeO.bind ?_ (fun _ => ?_)
    · intro y0 y1 y2 y3 y4 y5 y6
      unfold fixed_cut.j1
      repeat' first
      | (with_reducible exact ih0 _ _ _ _ _)
      | (with_reducible exact ih1 _ _ _ _ _ _ _)
      | (with_reducible exact ih2 _ _ _ _ _ _ _)
      | (with_reducible exact LeO.refl _)
      | (with_reducible exact LeO.none _)
      | (with_reducible refine LeO.ite ?_ ?_)
      | (with_reducible refine LeO.bind ?_ (fun _ => ?_))
      | exact ih0 _ _ _ _ _
      | exact ih1 _ _ _ _ _ _ _
      | exact ih2 _ _ _ _ _ _ _
      | exact LeO.none _
      | refine LeO.ite ?_ ?_
      | refine LeO.bind ?_ (fun _ => ?_)
    · intro y0 y1 y2 y3 y4 y5 y6
      unfold fixed_cut.j2
      repeat' first
      | (with_reducible exact ih0 _ _ _ _ _)
      | (with_reducible exact ih1 _ _ _ _ _ _ _)
      | (with_reducible exact ih2 _ _ _ _ _ _ _)
      | (with_reducible exact LeO.refl _)
      | (with_reducible exact LeO.none _)
      | (with_reducible refine LeO.ite ?_ ?_)
      | (with_reducible refine LeO.bind ?_ (fun _ => ?_))
      | exact ih0 _ _ _ _ _
      | exact ih1 _ _ _ _ _ _ _
      | exact ih2 _ _ _ _ _ _ _
      | exact LeO.none _
      | refine LeO.ite ?_ ?_
      | refine LeO.bind ?_ (fun _ => ?_)
theorem fixed_cut.mono : ∀ a0 k, LeO (fixed_cut.f k a0) (fixed_cut.f (k + 1) a0) := by
  intro a0 k
  obtain ⟨ih0, ih1, ih2⟩ := fixed_cut.mono_l k
  unfold fixed_cut.f
  repeat' first
      | (with_reducible exact ih0 _ _ _ _ _)
      | (with_reducible exact ih1 _ _ _ _ _ _ _)
      | (with_reducible exact ih2 _ _ _ _ _ _ _)
      | (with_reducible exact LeO.refl _)
      | (with_reducible exact LeO.none _)
      | (with_reducible refine LeO.ite ?_ ?_)
      | (with_reducible refine LeO.bind ?_ (fun _ => ?_))
      | exact ih0 _ _ _ _ _
      | exact ih1 _ _ _ _ _ _ _
      | exact ih2 _ _ _ _ _ _ _
      | exact LeO.none _
      | refine LeO.ite ?_ ?_
      | refine LeO.bind ?_ (fun _ => ?_)
set_option maxHeartbeats 8000000 in
set_option maxRecDepth 100000 in
theorem fixed_cut.calls (k : Nat) (a0 : ByteArray) (r1 : ByteArray) (r2 : ByteArray) (r3 : Bool) (w : World) (h : fixed_cut.f k a0 = some (r1, r2, r3)) :
    Calls Tryd.prog 23 #[.string a0] w fun e w' => e = .returned (.tuple #[.string r1, .string r2, .bool r3]) ∧ Drawn0 w w' := by
  have H : (fixed_cut.l0 k a0 false (-1) (a0.size : Int) 0) = some (r1, r2, r3) := h
  clear h
  have H' := Aside0.mk H
  clear H
  go_enter Tryd.func23, Tryd.ntmps23
  try go_wp2
  try refine wp_scope_straight ?_
  go_wp2
  repeat (go_quiet (fail); try go_wp2)
  try (go_step3; go_wp2)
  go_loopg [4, 5, 9] k (fun kq v4 v5 v9 w' => ∃ (x4_1 : Bool) (x5_1 : Int) (x9_1 : Int), v4 = .bool x4_1 ∧ v5 = .int .i64 x5_1 ∧ v9 = .int .i64 x9_1 ∧ Aside0 (fixed_cut.l0 kq a0 x4_1 x5_1 (a0.size : Int) x9_1 = some (r1, r2, r3)) ∧ Aside0 (kq ≤ k) ∧ Drawn0 w w')
  case atStart => exact ⟨(false), ((-1)), (0), (by first | rfl | (simp; done) | (simp [*]; done)), (by first | rfl | (simp; done) | (simp [*]; done)), (by first | rfl | (simp; done) | (simp [*]; done)), H', ⟨Nat.le_refl _⟩, by repeat (first | exact Drawn0.refl _ | apply Drawn0.step)⟩
  case round =>
    clear H'
    obtain ⟨x4_1, x5_1, x9_1, rfl, rfl, rfl, HA, HK1, ⟨m1, rfl⟩⟩ := hrel
    cases gk with
    | zero => exact absurd HA.out (by simp [fixed_cut.l0])
    | succ k1 =>
      have H := HA.out
      clear HA
      simp only [fixed_cut.l0] at H
      by_cases c2 : x9_1 < (a0.size : Int)
      · rw [if_pos c2] at H
        have c2b0 : decide (x9_1 < (a0.size : Int)) = true := decide_eq_true c2
        clear c2
        have HC3 := Aside0.mk H
        clear H
        go_upto_region 5 with (fail)
        repeat (go_quiet (fail); go_upto_region 5 with (fail))
        go_cut [12] (fun v12 wc => ∃ (kq : Nat) (x12_2 : Bool), v12 = .bool x12_2 ∧ Aside0 (fixed_cut.j1 kq a0 x4_1 x5_1 x9_1 (a0.size : Int) x9_1 x12_2 = some (r1, r2, r3)) ∧ Aside0 (kq ≤ k1) ∧ Drawn0 w wc)
        case first =>
          have H := HC3.out
          clear HC3
          by_cases c4 : 0 ≤ x9_1
          · rw [if_pos c4] at H
            have c4b0 : decide (0 ≤ x9_1) = true := decide_eq_true c4
            clear c4
            (first | rw [c4b0] | (simp only [i64_w, i32_w]; rw [c4b0]) | skip)
            by_cases c5 : x9_1 < (a0.size : Int)
            · rw [if_pos c5] at H
              have c5b0 : decide (x9_1 < (a0.size : Int)) = true := decide_eq_true c5
              clear c5
              by_cases c7 : (bt a0 x9_1) ≥ 48
              · rw [if_pos c7] at H
                have c7b0 : decide (48 ≤ (bt a0 x9_1)) = true := decide_eq_true c7
                clear c7
                have H' := Aside0.mk H
                clear H
                have p6 : 0 ≤ (x9_1 : Int) := of_decide_eq_true (by first | (with_reducible assumption) | assumption)
                have q6 : x9_1 < (a0.size : Int) := of_decide_eq_true (by first | (with_reducible assumption) | assumption)
                have hx6 := bt_at a0 x9_1
                replace p6 := eq_true p6
                replace q6 := eq_true q6
                have p8 : 0 ≤ (x9_1 : Int) := of_decide_eq_true (by first | (with_reducible assumption) | assumption)
                have q8 : x9_1 < (a0.size : Int) := of_decide_eq_true (by first | (with_reducible assumption) | assumption)
                have hx8 := bt_at a0 x9_1
                replace p8 := eq_true p8
                replace q8 := eq_true q8
                go_wp2
                repeat (go_quiet (fail); try go_wp2)
                go_meet
                case rel => exact ⟨_, (decide ((bt a0 x9_1) ≤ 57)), (by first | rfl | (simp; done) | (simp [*]; done)), H', ⟨by have := HK1.out; first | omega | exact Nat.le_refl _⟩, by repeat (first | exact Drawn0.refl _ | apply Drawn0.step)⟩
              · rw [if_neg c7] at H
                have c7b0 : decide (48 ≤ (bt a0 x9_1)) = false := decide_eq_false c7
                clear c7
                have H' := Aside0.mk H
                clear H
                have p6 : 0 ≤ (x9_1 : Int) := of_decide_eq_true (by first | (with_reducible assumption) | assumption)
                have q6 : x9_1 < (a0.size : Int) := of_decide_eq_true (by first | (with_reducible assumption) | assumption)
                have hx6 := bt_at a0 x9_1
                replace p6 := eq_true p6
                replace q6 := eq_true q6
                go_wp2
                repeat (go_quiet (fail); try go_wp2)
                go_meet
                case rel => exact ⟨_, (false), (by first | rfl | (simp; done) | (simp [*]; done)), H', ⟨by have := HK1.out; first | omega | exact Nat.le_refl _⟩, by repeat (first | exact Drawn0.refl _ | apply Drawn0.step)⟩
            · rw [if_neg c5] at H
              exact absurd H (by simp)
          · rw [if_neg c4] at H
            exact absurd H (by simp)
        case rest =>
          clear HC3
          try clear c2
          try clear c2b0
          try clear p2
          try clear c4
          try clear c4b0
          try clear c5
          try clear c5b0
          try clear p6
          try clear q6
          try clear hx6
          try clear c7
          try clear c7b0
          try clear p8
          try clear q8
          try clear hx8
          try clear p6
          try clear p8
          try clear q6
          try clear q8
          obtain ⟨kq, x12_2, rfl, HA, HJ2, ⟨mc2, rfl⟩⟩ := hcut
          cases kq with
          | zero => exact absurd HA.out (by simp [fixed_cut.j1])
          | succ kj2 =>
            have H := HA.out
            clear HA
            simp only [fixed_cut.j1] at H
            by_cases c9 : x12_2 = true
            · subst c9
              have H1 : (if x9_1 = (wrap64 ((a0.size : Int) - 1)) then (fixed_cut.l0 kj2 a0 true x5_1 (a0.size : Int) (wrap64 (x9_1 + 1))) else (fixed_cut.l0 kj2 a0 x4_1 x5_1 (a0.size : Int) (wrap64 (x9_1 + 1)))) = some (r1, r2, r3) := by rw [if_pos rfl] at H; exact H
              clear H
              have H := H1
              clear H1
              by_cases c10 : x9_1 = (wrap64 ((a0.size : Int) - 1))
              · rw [if_pos c10] at H
                have c10b0 : (x9_1 == (wrap64 ((a0.size : Int) - 1))) = true := beq_iff_eq.mpr c10
                have c10b1 : (x9_1 != (wrap64 ((a0.size : Int) - 1))) = false := bne_eq_false_iff_eq.mpr c10
                clear c10
                have H' := Aside0.mk H
                clear H
                go_wp2
                repeat (go_quiet (fail); try go_wp2)
                go_roundg kj2
                case measure => have := HK1.out; have := HJ2.out; omega
                case rel => exact ⟨(true), (x5_1), (wrap64 (x9_1 + 1)), (by first | rfl | (simp; done) | (simp [*]; done)), (by first | rfl | (simp; done) | (simp [*]; done)), (by first | rfl | (simp; done) | (simp [*]; done)), H', ⟨by have := HK1.out; have := HJ2.out; omega⟩, by repeat (first | exact Drawn0.refl _ | apply Drawn0.step)⟩
              · rw [if_neg c10] at H
                have c10b0 : (x9_1 == (wrap64 ((a0.size : Int) - 1))) = false := beq_eq_false_iff_ne.mpr c10
                have c10b1 : (x9_1 != (wrap64 ((a0.size : Int) - 1))) = true := bne_iff_ne.mpr c10
                have H' := Aside0.mk H
                clear H
                go_wp2
                repeat (go_quiet (fail); try go_wp2)
                go_roundg kj2
                case measure => have := HK1.out; have := HJ2.out; omega
                case rel => exact ⟨(x4_1), (x5_1), (wrap64 (x9_1 + 1)), (by first | rfl | (simp; done) | (simp [*]; done)), (by first | rfl | (simp; done) | (simp [*]; done)), (by first | rfl | (simp; done) | (simp [*]; done)), H', ⟨by have := HK1.out; have := HJ2.out; omega⟩, by repeat (first | exact Drawn0.refl _ | apply Drawn0.step)⟩
            · replace c9 := Bool.eq_false_iff.mpr c9
              subst c9
              have H1 : (if 0 ≤ x9_1 then (if x9_1 < (a0.size : Int) then (if (bt a0 x9_1) = 46 then (fixed_cut.j2 kj2 a0 x4_1 x5_1 x9_1 (a0.size : Int) x9_1 (decide (x5_1 < 0))) else (fixed_cut.j2 kj2 a0 x4_1 x5_1 x9_1 (a0.size : Int) x9_1 false)) else (none)) else (none)) = some (r1, r2, r3) := by rw [if_neg (show ¬ (false = true) by decide)] at H; exact H
              clear H
              have H := H1
              clear H1
              have HC11 := Aside0.mk H
              clear H
              go_upto_region 6 with (fail)
              repeat (go_quiet (fail); go_upto_region 6 with (fail))
              go_cut [23] (fun v23 wc => ∃ (kq : Nat) (x23_10 : Bool), v23 = .bool x23_10 ∧ Aside0 (fixed_cut.j2 kq a0 x4_1 x5_1 x9_1 (a0.size : Int) x9_1 x23_10 = some (r1, r2, r3)) ∧ Aside0 (kq ≤ kj2) ∧ Drawn0 w wc)
              case first =>
                have H := HC11.out
                clear HC11
                by_cases c12 : 0 ≤ x9_1
                · rw [if_pos c12] at H
                  have c12b0 : decide (0 ≤ x9_1) = true := decide_eq_true c12
                  clear c12
                  (first | rw [c12b0] | (simp only [i64_w, i32_w]; rw [c12b0]) | skip)
                  by_cases c13 : x9_1 < (a0.size : Int)
                  · rw [if_pos c13] at H
                    have c13b0 : decide (x9_1 < (a0.size : Int)) = true := decide_eq_true c13
                    clear c13
                    by_cases c15 : (bt a0 x9_1) = 46
                    · rw [if_pos c15] at H
                      have c15b0 : ((bt a0 x9_1) == 46) = true := beq_iff_eq.mpr c15
                      have c15b1 : ((bt a0 x9_1) != 46) = false := bne_eq_false_iff_eq.mpr c15
                      clear c15
                      have H' := Aside0.mk H
                      clear H
                      have p14 : 0 ≤ (x9_1 : Int) := of_decide_eq_true (by first | (with_reducible assumption) | assumption)
                      have q14 : x9_1 < (a0.size : Int) := of_decide_eq_true (by first | (with_reducible assumption) | assumption)
                      have hx14 := bt_at a0 x9_1
                      replace p14 := eq_true p14
                      replace q14 := eq_true q14
                      go_wp2
                      repeat (go_quiet (fail); try go_wp2)
                      go_meet
                      case rel => exact ⟨_, (decide (x5_1 < 0)), (by first | rfl | (simp; done) | (simp [*]; done)), H', ⟨by have := HK1.out; have := HJ2.out; first | omega | exact Nat.le_refl _⟩, by repeat (first | exact Drawn0.refl _ | apply Drawn0.step)⟩
                    · rw [if_neg c15] at H
                      have c15b0 : ((bt a0 x9_1) == 46) = false := beq_eq_false_iff_ne.mpr c15
                      have c15b1 : ((bt a0 x9_1) != 46) = true := bne_iff_ne.mpr c15
                      have H' := Aside0.mk H
                      clear H
                      have p14 : 0 ≤ (x9_1 : Int) := of_decide_eq_true (by first | (with_reducible assumption) | assumption)
                      have q14 : x9_1 < (a0.size : Int) := of_decide_eq_true (by first | (with_reducible assumption) | assumption)
                      have hx14 := bt_at a0 x9_1
                      replace p14 := eq_true p14
                      replace q14 := eq_true q14
                      go_wp2
                      repeat (go_quiet (fail); try go_wp2)
                      go_meet
                      case rel => exact ⟨_, (false), (by first | rfl | (simp; done) | (simp [*]; done)), H', ⟨by have := HK1.out; have := HJ2.out; first | omega | exact Nat.le_refl _⟩, by repeat (first | exact Drawn0.refl _ | apply Drawn0.step)⟩
                  · rw [if_neg c13] at H
                    exact absurd H (by simp)
                · rw [if_neg c12] at H
                  exact absurd H (by simp)
              case rest =>
                clear HC11
                try clear c1
                try clear p1
                try clear q1
                try clear hx1
                try clear c2
                try clear c2b0
                try clear p2
                try clear c4
                try clear c4b0
                try clear c5
                try clear c5b0
                try clear p6
                try clear q6
                try clear hx6
                try clear c7
                try clear c7b0
                try clear p8
                try clear q8
                try clear hx8
                try clear c9
                try clear c10
                try clear c10b0
                try clear c10b1
                try clear c12
                try clear c12b0
                try clear c13
                try clear c13b0
                try clear p14
                try clear q14
                try clear hx14
                try clear c15
                try clear c15b0
                try clear c15b1
                try clear p14
                try clear p2
                try clear p6
                try clear p8
                try clear q14
                try clear q6
                try clear q8
                obtain ⟨kq, x23_10, rfl, HA, HJ10, ⟨mc10, rfl⟩⟩ := hcut
                cases kq with
                | zero => exact absurd HA.out (by simp [fixed_cut.j2])
                | succ kj10 =>
                  have H := HA.out
                  clear HA
                  simp only [fixed_cut.j2] at H
                  by_cases c16 : x23_10 = true
                  · subst c16
                    have H1 : (if x9_1 = (wrap64 ((a0.size : Int) - 1)) then (fixed_cut.l0 kj10 a0 true x9_1 (a0.size : Int) (wrap64 (x9_1 + 1))) else (fixed_cut.l0 kj10 a0 x4_1 x9_1 (a0.size : Int) (wrap64 (x9_1 + 1)))) = some (r1, r2, r3) := by rw [if_pos rfl] at H; exact H
                    clear H
                    have H := H1
                    clear H1
                    by_cases c17 : x9_1 = (wrap64 ((a0.size : Int) - 1))
                    · rw [if_pos c17] at H
                      have c17b0 : (x9_1 == (wrap64 ((a0.size : Int) - 1))) = true := beq_iff_eq.mpr c17
                      have c17b1 : (x9_1 != (wrap64 ((a0.size : Int) - 1))) = false := bne_eq_false_iff_eq.mpr c17
                      clear c17
                      have H' := Aside0.mk H
                      clear H
                      go_wp2
                      repeat (go_quiet (fail); try go_wp2)
                      go_roundg kj10
                      case measure => have := HK1.out; have := HJ2.out; have := HJ10.out; omega
                      case rel => exact ⟨(true), (x9_1), (wrap64 (x9_1 + 1)), (by first | rfl | (simp; done) | (simp [*]; done)), (by first | rfl | (simp; done) | (simp [*]; done)), (by first | rfl | (simp; done) | (simp [*]; done)), H', ⟨by have := HK1.out; have := HJ2.out; have := HJ10.out; omega⟩, by repeat (first | exact Drawn0.refl _ | apply Drawn0.step)⟩
                    · rw [if_neg c17] at H
                      have c17b0 : (x9_1 == (wrap64 ((a0.size : Int) - 1))) = false := beq_eq_false_iff_ne.mpr c17
                      have c17b1 : (x9_1 != (wrap64 ((a0.size : Int) - 1))) = true := bne_iff_ne.mpr c17
                      have H' := Aside0.mk H
                      clear H
                      go_wp2
                      repeat (go_quiet (fail); try go_wp2)
                      go_roundg kj10
                      case measure => have := HK1.out; have := HJ2.out; have := HJ10.out; omega
                      case rel => exact ⟨(x4_1), (x9_1), (wrap64 (x9_1 + 1)), (by first | rfl | (simp; done) | (simp [*]; done)), (by first | rfl | (simp; done) | (simp [*]; done)), (by first | rfl | (simp; done) | (simp [*]; done)), H', ⟨by have := HK1.out; have := HJ2.out; have := HJ10.out; omega⟩, by repeat (first | exact Drawn0.refl _ | apply Drawn0.step)⟩
                  · replace c16 := Bool.eq_false_iff.mpr c16
                    subst c16
                    have H1 : (if x5_1 < 0 then (some (a0, (⟨#[]⟩ : ByteArray), x4_1)) else (if 0 ≤ x5_1 then (if x5_1 ≤ (a0.size : Int) then (if 0 ≤ (wrap64 (x5_1 + 1)) then (if (wrap64 (x5_1 + 1)) ≤ (a0.size : Int) then (if x4_1 = true then (if (a0.extract 0 (x5_1 : Int).toNat).toList = ([] : List UInt8) then (some (a0.extract 0 (x5_1 : Int).toNat, a0.extract ((wrap64 (x5_1 + 1)) : Int).toNat a0.size, false)) else (if (a0.extract ((wrap64 (x5_1 + 1)) : Int).toNat a0.size).toList = ([] : List UInt8) then (some (a0.extract 0 (x5_1 : Int).toNat, a0.extract ((wrap64 (x5_1 + 1)) : Int).toNat a0.size, false)) else (some (a0.extract 0 (x5_1 : Int).toNat, a0.extract ((wrap64 (x5_1 + 1)) : Int).toNat a0.size, decide (((a0.extract ((wrap64 (x5_1 + 1)) : Int).toNat a0.size).size : Int) ≤ 3))))) else (some (a0.extract 0 (x5_1 : Int).toNat, a0.extract ((wrap64 (x5_1 + 1)) : Int).toNat a0.size, false))) else (none)) else (none)) else (none)) else (none))) = some (r1, r2, r3) := by rw [if_neg (show ¬ (false = true) by decide)] at H; exact H
                    clear H
                    have H := H1
                    clear H1
                    by_cases c18 : x5_1 < 0
                    · rw [if_pos c18] at H
                      have c18b0 : decide (x5_1 < 0) = true := decide_eq_true c18
                      clear c18
                      simp only [Option.some.injEq, Prod.mk.injEq] at H
                      obtain ⟨rfl, rfl, rfl⟩ := H
                      go_wp2
                      repeat (go_quiet (fail); try go_wp2)
                      try rw [Exit.noGoto_ret]
                      go_ret3
                      exact ⟨by first | rfl | (simp; done) | (simp [*]; done), by repeat (first | exact Drawn0.refl _ | apply Drawn0.step)⟩
                    · rw [if_neg c18] at H
                      have c18b0 : decide (x5_1 < 0) = false := decide_eq_false c18
                      clear c18
                      by_cases c19 : 0 ≤ x5_1
                      · rw [if_pos c19] at H
                        have c19b0 := eq_true c19
                        have c19b1 : decide (0 ≤ x5_1) = true := decide_eq_true c19
                        clear c19
                        by_cases c20 : x5_1 ≤ (a0.size : Int)
                        · rw [if_pos c20] at H
                          have c20b0 := eq_true c20
                          have c20b1 : decide (x5_1 ≤ (a0.size : Int)) = true := decide_eq_true c20
                          clear c20
                          obtain ⟨ji21, hji21⟩ : ∃ j_ : Int, (wrap64 (x5_1 + 1)) = j_ := ⟨_, rfl⟩
                          replace H : (if 0 ≤ (ji21) then (if (ji21) ≤ (a0.size : Int) then (if x4_1 = true then (if (a0.extract 0 (x5_1 : Int).toNat).toList = ([] : List UInt8) then (some (a0.extract 0 (x5_1 : Int).toNat, a0.extract ((ji21) : Int).toNat a0.size, false)) else (if (a0.extract ((ji21) : Int).toNat a0.size).toList = ([] : List UInt8) then (some (a0.extract 0 (x5_1 : Int).toNat, a0.extract ((ji21) : Int).toNat a0.size, false)) else (some (a0.extract 0 (x5_1 : Int).toNat, a0.extract ((ji21) : Int).toNat a0.size, decide (((a0.extract ((ji21) : Int).toNat a0.size).size : Int) ≤ 3))))) else (some (a0.extract 0 (x5_1 : Int).toNat, a0.extract ((ji21) : Int).toNat a0.size, false))) else (none)) else (none)) = some (r1, r2, r3) := by first | (rw [hji21] at H; exact H) | (simp only [hji21] at H ⊢; exact H)
                          have hji21w : (IntKind.i64.wrap (x5_1 + 1)) = ji21 := (i64_w _).trans hji21
                          by_cases c22 : 0 ≤ (ji21)
                          · rw [if_pos c22] at H
                            have c22b0 := eq_true c22
                            have c22b1 : decide (0 ≤ (ji21)) = true := decide_eq_true c22
                            clear c22
                            by_cases c23 : (ji21) ≤ (a0.size : Int)
                            · rw [if_pos c23] at H
                              have c23b0 := eq_true c23
                              have c23b1 : decide ((ji21) ≤ (a0.size : Int)) = true := decide_eq_true c23
                              clear c23
                              by_cases c24 : x4_1 = true
                              · subst c24
                                have H1 : (if (a0.extract 0 (x5_1 : Int).toNat).toList = ([] : List UInt8) then (some (a0.extract 0 (x5_1 : Int).toNat, a0.extract ((ji21) : Int).toNat a0.size, false)) else (if (a0.extract ((ji21) : Int).toNat a0.size).toList = ([] : List UInt8) then (some (a0.extract 0 (x5_1 : Int).toNat, a0.extract ((ji21) : Int).toNat a0.size, false)) else (some (a0.extract 0 (x5_1 : Int).toNat, a0.extract ((ji21) : Int).toNat a0.size, decide (((a0.extract ((ji21) : Int).toNat a0.size).size : Int) ≤ 3))))) = some (r1, r2, r3) := by rw [if_pos rfl] at H; exact H
                                clear H
                                have H := H1
                                clear H1
                                by_cases c25 : (a0.extract 0 (x5_1 : Int).toNat).toList = ([] : List UInt8)
                                · rw [if_pos c25] at H
                                  have c25b0 : ((a0.extract 0 (x5_1 : Int).toNat).toList == ([] : List UInt8)) = true := beq_iff_eq.mpr c25
                                  have c25b1 : ((a0.extract 0 (x5_1 : Int).toNat).toList != ([] : List UInt8)) = false := bne_eq_false_iff_eq.mpr c25
                                  clear c25
                                  simp only [Option.some.injEq, Prod.mk.injEq] at H
                                  obtain ⟨rfl, rfl, rfl⟩ := H
                                  go_wp2
                                  repeat (go_quiet (fail); try go_wp2)
                                  try rw [Exit.noGoto_ret]
                                  go_ret3
                                  exact ⟨by first | rfl | (simp; done) | (simp only [← hji21] <;> (first | rfl | simp)) | (simp [*]; done), by repeat (first | exact Drawn0.refl _ | apply Drawn0.step)⟩
                                · rw [if_neg c25] at H
                                  have c25b0 : ((a0.extract 0 (x5_1 : Int).toNat).toList == ([] : List UInt8)) = false := beq_eq_false_iff_ne.mpr c25
                                  have c25b1 : ((a0.extract 0 (x5_1 : Int).toNat).toList != ([] : List UInt8)) = true := bne_iff_ne.mpr c25
                                  by_cases c26 : (a0.extract ((ji21) : Int).toNat a0.size).toList = ([] : List UInt8)
                                  · rw [if_pos c26] at H
                                    have c26b0 : ((a0.extract ((ji21) : Int).toNat a0.size).toList == ([] : List UInt8)) = true := beq_iff_eq.mpr c26
                                    have c26b1 : ((a0.extract ((ji21) : Int).toNat a0.size).toList != ([] : List UInt8)) = false := bne_eq_false_iff_eq.mpr c26
                                    clear c26
                                    simp only [Option.some.injEq, Prod.mk.injEq] at H
                                    obtain ⟨rfl, rfl, rfl⟩ := H
                                    go_wp2
                                    repeat (go_quiet (fail); try go_wp2)
                                    try rw [Exit.noGoto_ret]
                                    go_ret3
                                    exact ⟨by first | rfl | (simp; done) | (simp only [← hji21] <;> (first | rfl | simp)) | (simp [*]; done), by repeat (first | exact Drawn0.refl _ | apply Drawn0.step)⟩
                                  · rw [if_neg c26] at H
                                    have c26b0 : ((a0.extract ((ji21) : Int).toNat a0.size).toList == ([] : List UInt8)) = false := beq_eq_false_iff_ne.mpr c26
                                    have c26b1 : ((a0.extract ((ji21) : Int).toNat a0.size).toList != ([] : List UInt8)) = true := bne_iff_ne.mpr c26
                                    simp only [Option.some.injEq, Prod.mk.injEq] at H
                                    obtain ⟨rfl, rfl, rfl⟩ := H
                                    go_wp2
                                    repeat (go_quiet (fail); try go_wp2)
                                    try rw [Exit.noGoto_ret]
                                    go_ret3
                                    exact ⟨by first | rfl | (simp; done) | (simp only [← hji21] <;> (first | rfl | simp)) | (simp [*]; done), by repeat (first | exact Drawn0.refl _ | apply Drawn0.step)⟩
                              · replace c24 := Bool.eq_false_iff.mpr c24
                                subst c24
                                have H1 : (some (a0.extract 0 (x5_1 : Int).toNat, a0.extract ((ji21) : Int).toNat a0.size, false)) = some (r1, r2, r3) := by rw [if_neg (show ¬ (false = true) by decide)] at H; exact H
                                clear H
                                have H := H1
                                clear H1
                                simp only [Option.some.injEq, Prod.mk.injEq] at H
                                obtain ⟨rfl, rfl, rfl⟩ := H
                                go_wp2
                                repeat (go_quiet (fail); try go_wp2)
                                try rw [Exit.noGoto_ret]
                                go_ret3
                                exact ⟨by first | rfl | (simp; done) | (simp only [← hji21] <;> (first | rfl | simp)) | (simp [*]; done), by repeat (first | exact Drawn0.refl _ | apply Drawn0.step)⟩
                            · rw [if_neg c23] at H
                              exact absurd H (by simp)
                          · rw [if_neg c22] at H
                            exact absurd H (by simp)
                        · rw [if_neg c20] at H
                          exact absurd H (by simp)
                      · rw [if_neg c19] at H
                        exact absurd H (by simp)
      · rw [if_neg c2] at H
        have c2b0 : decide (x9_1 < (a0.size : Int)) = false := decide_eq_false c2
        clear c2
        by_cases c27 : x5_1 < 0
        · rw [if_pos c27] at H
          have c27b0 : decide (x5_1 < 0) = true := decide_eq_true c27
          clear c27
          simp only [Option.some.injEq, Prod.mk.injEq] at H
          obtain ⟨rfl, rfl, rfl⟩ := H
          go_wp2
          repeat (go_quiet (fail); try go_wp2)
          try rw [Exit.noGoto_ret]
          go_ret3
          exact ⟨by first | rfl | (simp; done) | (simp [*]; done), by repeat (first | exact Drawn0.refl _ | apply Drawn0.step)⟩
        · rw [if_neg c27] at H
          have c27b0 : decide (x5_1 < 0) = false := decide_eq_false c27
          clear c27
          by_cases c28 : 0 ≤ x5_1
          · rw [if_pos c28] at H
            have c28b0 := eq_true c28
            have c28b1 : decide (0 ≤ x5_1) = true := decide_eq_true c28
            clear c28
            by_cases c29 : x5_1 ≤ (a0.size : Int)
            · rw [if_pos c29] at H
              have c29b0 := eq_true c29
              have c29b1 : decide (x5_1 ≤ (a0.size : Int)) = true := decide_eq_true c29
              clear c29
              obtain ⟨ji30, hji30⟩ : ∃ j_ : Int, (wrap64 (x5_1 + 1)) = j_ := ⟨_, rfl⟩
              replace H : (if 0 ≤ (ji30) then (if (ji30) ≤ (a0.size : Int) then (if x4_1 = true then (if (a0.extract 0 (x5_1 : Int).toNat).toList = ([] : List UInt8) then (some (a0.extract 0 (x5_1 : Int).toNat, a0.extract ((ji30) : Int).toNat a0.size, false)) else (if (a0.extract ((ji30) : Int).toNat a0.size).toList = ([] : List UInt8) then (some (a0.extract 0 (x5_1 : Int).toNat, a0.extract ((ji30) : Int).toNat a0.size, false)) else (some (a0.extract 0 (x5_1 : Int).toNat, a0.extract ((ji30) : Int).toNat a0.size, decide (((a0.extract ((ji30) : Int).toNat a0.size).size : Int) ≤ 3))))) else (some (a0.extract 0 (x5_1 : Int).toNat, a0.extract ((ji30) : Int).toNat a0.size, false))) else (none)) else (none)) = some (r1, r2, r3) := by first | (rw [hji30] at H; exact H) | (simp only [hji30] at H ⊢; exact H)
              have hji30w : (IntKind.i64.wrap (x5_1 + 1)) = ji30 := (i64_w _).trans hji30
              by_cases c31 : 0 ≤ (ji30)
              · rw [if_pos c31] at H
                have c31b0 := eq_true c31
                have c31b1 : decide (0 ≤ (ji30)) = true := decide_eq_true c31
                clear c31
                by_cases c32 : (ji30) ≤ (a0.size : Int)
                · rw [if_pos c32] at H
                  have c32b0 := eq_true c32
                  have c32b1 : decide ((ji30) ≤ (a0.size : Int)) = true := decide_eq_true c32
                  clear c32
                  by_cases c33 : x4_1 = true
                  · subst c33
                    have H1 : (if (a0.extract 0 (x5_1 : Int).toNat).toList = ([] : List UInt8) then (some (a0.extract 0 (x5_1 : Int).toNat, a0.extract ((ji30) : Int).toNat a0.size, false)) else (if (a0.extract ((ji30) : Int).toNat a0.size).toList = ([] : List UInt8) then (some (a0.extract 0 (x5_1 : Int).toNat, a0.extract ((ji30) : Int).toNat a0.size, false)) else (some (a0.extract 0 (x5_1 : Int).toNat, a0.extract ((ji30) : Int).toNat a0.size, decide (((a0.extract ((ji30) : Int).toNat a0.size).size : Int) ≤ 3))))) = some (r1, r2, r3) := by rw [if_pos rfl] at H; exact H
                    clear H
                    have H := H1
                    clear H1
                    by_cases c34 : (a0.extract 0 (x5_1 : Int).toNat).toList = ([] : List UInt8)
                    · rw [if_pos c34] at H
                      have c34b0 : ((a0.extract 0 (x5_1 : Int).toNat).toList == ([] : List UInt8)) = true := beq_iff_eq.mpr c34
                      have c34b1 : ((a0.extract 0 (x5_1 : Int).toNat).toList != ([] : List UInt8)) = false := bne_eq_false_iff_eq.mpr c34
                      clear c34
                      simp only [Option.some.injEq, Prod.mk.injEq] at H
                      obtain ⟨rfl, rfl, rfl⟩ := H
                      go_wp2
                      repeat (go_quiet (fail); try go_wp2)
                      try rw [Exit.noGoto_ret]
                      go_ret3
                      exact ⟨by first | rfl | (simp; done) | (simp only [← hji30] <;> (first | rfl | simp)) | (simp [*]; done), by repeat (first | exact Drawn0.refl _ | apply Drawn0.step)⟩
                    · rw [if_neg c34] at H
                      have c34b0 : ((a0.extract 0 (x5_1 : Int).toNat).toList == ([] : List UInt8)) = false := beq_eq_false_iff_ne.mpr c34
                      have c34b1 : ((a0.extract 0 (x5_1 : Int).toNat).toList != ([] : List UInt8)) = true := bne_iff_ne.mpr c34
                      by_cases c35 : (a0.extract ((ji30) : Int).toNat a0.size).toList = ([] : List UInt8)
                      · rw [if_pos c35] at H
                        have c35b0 : ((a0.extract ((ji30) : Int).toNat a0.size).toList == ([] : List UInt8)) = true := beq_iff_eq.mpr c35
                        have c35b1 : ((a0.extract ((ji30) : Int).toNat a0.size).toList != ([] : List UInt8)) = false := bne_eq_false_iff_eq.mpr c35
                        clear c35
                        simp only [Option.some.injEq, Prod.mk.injEq] at H
                        obtain ⟨rfl, rfl, rfl⟩ := H
                        go_wp2
                        repeat (go_quiet (fail); try go_wp2)
                        try rw [Exit.noGoto_ret]
                        go_ret3
                        exact ⟨by first | rfl | (simp; done) | (simp only [← hji30] <;> (first | rfl | simp)) | (simp [*]; done), by repeat (first | exact Drawn0.refl _ | apply Drawn0.step)⟩
                      · rw [if_neg c35] at H
                        have c35b0 : ((a0.extract ((ji30) : Int).toNat a0.size).toList == ([] : List UInt8)) = false := beq_eq_false_iff_ne.mpr c35
                        have c35b1 : ((a0.extract ((ji30) : Int).toNat a0.size).toList != ([] : List UInt8)) = true := bne_iff_ne.mpr c35
                        simp only [Option.some.injEq, Prod.mk.injEq] at H
                        obtain ⟨rfl, rfl, rfl⟩ := H
                        go_wp2
                        repeat (go_quiet (fail); try go_wp2)
                        try rw [Exit.noGoto_ret]
                        go_ret3
                        exact ⟨by first | rfl | (simp; done) | (simp only [← hji30] <;> (first | rfl | simp)) | (simp [*]; done), by repeat (first | exact Drawn0.refl _ | apply Drawn0.step)⟩
                  · replace c33 := Bool.eq_false_iff.mpr c33
                    subst c33
                    have H1 : (some (a0.extract 0 (x5_1 : Int).toNat, a0.extract ((ji30) : Int).toNat a0.size, false)) = some (r1, r2, r3) := by rw [if_neg (show ¬ (false = true) by decide)] at H; exact H
                    clear H
                    have H := H1
                    clear H1
                    simp only [Option.some.injEq, Prod.mk.injEq] at H
                    obtain ⟨rfl, rfl, rfl⟩ := H
                    go_wp2
                    repeat (go_quiet (fail); try go_wp2)
                    try rw [Exit.noGoto_ret]
                    go_ret3
                    exact ⟨by first | rfl | (simp; done) | (simp only [← hji30] <;> (first | rfl | simp)) | (simp [*]; done), by repeat (first | exact Drawn0.refl _ | apply Drawn0.step)⟩
                · rw [if_neg c32] at H
                  exact absurd H (by simp)
              · rw [if_neg c31] at H
                exact absurd H (by simp)
            · rw [if_neg c29] at H
              exact absurd H (by simp)
          · rw [if_neg c28] at H
            exact absurd H (by simp)

end Go.Proofs.YtpmehejlamddeaaDoor.Q

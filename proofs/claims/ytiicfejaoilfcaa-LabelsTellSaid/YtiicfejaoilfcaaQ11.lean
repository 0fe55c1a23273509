/- Functions of the program as plain Lean functions, each with the proof that its call comes to just these answers: written by a program of this session (wip/tools/printg.py over the kit's print) for this claim. -/
import Derived.Test.YtiicfejaoilfcaaQ0
import Derived.Test.YtiicfejaoilfcaaQ9
import Derived.Test.YtiicfejaoilfcaaQ10
namespace Go.Proofs.Ytiicfejaoilfcaa.Q
open Go.RowKit Go.Proofs.YtiicfejaoilfcaaW.PrintWords Go.Proofs.YtiicfejaoilfcaaW.PrintLast Go.Proofs.YtiicfejaoilfcaaW.PrintMore
attribute [local go_sem] Opn.str_leq Opn.str_gtr Opn.str_geq max2_int min2_int max_two min_two max_three min_three max_four min_four   -- for this text's walks alone
set_option linter.unusedVariables false
set_option linter.unusedSimpArgs false

/-! ### tocsinref07_Parse: function 15 -/
mutual
def tocsinref07_Parse.j0 : Nat → ByteArray → List (S31) → Bool → Option ((List (S31)) × ByteArray × Int)
  | 0, _, _, _ => none
  | k + 1, x0, x5, x17 => if x17 = true then (some (([] : List (S31)), (⟨#[]⟩ : ByteArray), 70)) else (tocsinref07_Parse.l0 k x0 x5 1)
def tocsinref07_Parse.l0 : Nat → ByteArray → List (S31) → Int → Option ((List (S31)) × ByteArray × Int)
  | 0, _, _, _ => none
  | k + 1, x0, x5, x6 => if 0 ≤ x6 then (if x6 < (x0.size : Int) then (if (bt x0 x6) = 125 then ((tocsinref07_May.f k x5).bind fun t127 => (if t127 = true then (if 0 ≤ (wrap64 (x6 + 1)) then (if (wrap64 (x6 + 1)) ≤ (x0.size : Int) then (some (x5, x0.extract ((wrap64 (x6 + 1)) : Int).toNat x0.size, 0)) else (none)) else (none)) else (some (([] : List (S31)), (⟨#[]⟩ : ByteArray), 70)))) else (tocsinref07_Parse.l1 k x0 x5 x6 x6)) else (none)) else (none)
def tocsinref07_Parse.j3 : Nat → ByteArray → List (S31) → Int → Int → Option ((List (S31)) × ByteArray × Int)
  | 0, _, _, _, _ => none
  | k + 1, x0, x5, x6, x7 => if x7 = (x0.size : Int) then (some (([] : List (S31)), (⟨#[]⟩ : ByteArray), 70)) else (if 0 ≤ (wrap64 (x7 + 1)) then (if (wrap64 (x7 + 1)) ≤ (x0.size : Int) then ((tocsinref07_Quoted.f k (x0.extract ((wrap64 (x7 + 1)) : Int).toNat x0.size)).bind fun bt128 => (if 0 ≤ x6 then (if x6 ≤ x7 then (if x7 ≤ (x0.size : Int) then (if x5.length < 4398046511104 then ((some (x5 ++ [(⟨x0.extract (x6 : Int).toNat (x7 : Int).toNat, bt128.1⟩ : S31)] : List (S31))).bind fun y130 => (if bt128.2 = 0 then (tocsinref07_Parse.j4 k x0 y130 (wrap64 ((wrap64 (x7 + 1)) + bt128.2)) true) else (if (wrap64 ((wrap64 (x7 + 1)) + bt128.2)) ≥ (x0.size : Int) then (tocsinref07_Parse.j4 k x0 y130 (wrap64 ((wrap64 (x7 + 1)) + bt128.2)) true) else (if 0 ≤ (wrap64 ((wrap64 (x7 + 1)) + bt128.2)) then (if (wrap64 ((wrap64 (x7 + 1)) + bt128.2)) < (x0.size : Int) then (if (bt x0 (wrap64 ((wrap64 (x7 + 1)) + bt128.2))) = 44 then (tocsinref07_Parse.j4 k x0 y130 (wrap64 ((wrap64 (x7 + 1)) + bt128.2)) (decide ((y130.length : Int) > 4))) else (if (bt x0 (wrap64 ((wrap64 (x7 + 1)) + bt128.2))) = 125 then (tocsinref07_Parse.j4 k x0 y130 (wrap64 ((wrap64 (x7 + 1)) + bt128.2)) (decide ((y130.length : Int) > 4))) else (tocsinref07_Parse.j4 k x0 y130 (wrap64 ((wrap64 (x7 + 1)) + bt128.2)) true))) else (none)) else (none))))) else (none)) else (none)) else (none)) else (none))) else (none)) else (none))
def tocsinref07_Parse.j4 : Nat → ByteArray → List (S31) → Int → Bool → Option ((List (S31)) × ByteArray × Int)
  | 0, _, _, _, _ => none
  | k + 1, x0, x5, x6, x84 => if x84 = true then (some (([] : List (S31)), (⟨#[]⟩ : ByteArray), 70)) else (if 0 ≤ x6 then (if x6 < (x0.size : Int) then (if (bt x0 x6) = 44 then (if (wrap64 (x6 + 1)) = (x0.size : Int) then (some (([] : List (S31)), (⟨#[]⟩ : ByteArray), 70)) else (if 0 ≤ (wrap64 (x6 + 1)) then (if (wrap64 (x6 + 1)) < (x0.size : Int) then (if (bt x0 (wrap64 (x6 + 1))) = 125 then (some (([] : List (S31)), (⟨#[]⟩ : ByteArray), 70)) else (tocsinref07_Parse.l0 k x0 x5 (wrap64 (x6 + 1)))) else (none)) else (none))) else (tocsinref07_Parse.l0 k x0 x5 x6)) else (none)) else (none))
def tocsinref07_Parse.l1 : Nat → ByteArray → List (S31) → Int → Int → Option ((List (S31)) × ByteArray × Int)
  | 0, _, _, _, _ => none
  | k + 1, x0, x5, x6, x7 => if x7 < (x0.size : Int) then (if 0 ≤ x7 then (if (bt x0 x7) = 61 then (tocsinref07_Parse.j3 k x0 x5 x6 x7) else (tocsinref07_Parse.l1 k x0 x5 x6 (wrap64 (x7 + 1)))) else (none)) else (tocsinref07_Parse.j3 k x0 x5 x6 x7)
end
def tocsinref07_Parse.f (k : Nat) (a0 : ByteArray) : Option ((List (S31)) × ByteArray × Int) := if (a0.size : Int) < 2 then (tocsinref07_Parse.j0 k a0 ([] : List (S31)) true) else (if 0 < (a0.size : Int) then (tocsinref07_Parse.j0 k a0 ([] : List (S31)) ((bt a0 0) != 123)) else (none))
theorem tocsinref07_Parse.mono_l : ∀ k, (∀ y0 y1 y2, LeO (tocsinref07_Parse.j0 k y0 y1 y2) (tocsinref07_Parse.j0 (k + 1) y0 y1 y2)) ∧ (∀ y0 y1 y2, LeO (tocsinref07_Parse.l0 k y0 y1 y2) (tocsinref07_Parse.l0 (k + 1) y0 y1 y2)) ∧ (∀ y0 y1 y2 y3, LeO (tocsinref07_Parse.j3 k y0 y1 y2 y3) (tocsinref07_Parse.j3 (k + 1) y0 y1 y2 y3)) ∧ (∀ y0 y1 y2 y3, LeO (tocsinref07_Parse.j4 k y0 y1 y2 y3) (tocsinref07_Parse.j4 (k + 1) y0 y1 y2 y3)) ∧ (∀ y0 y1 y2 y3, LeO (tocsinref07_Parse.l1 k y0 y1 y2 y3) (tocsinref07_Parse.l1 (k + 1) y0 y1 y2 y3))
  | 0 => ⟨fun _ _ _ r h => by simp [tocsinref07_Parse.j0] at h, fun _ _ _ r h => by simp [tocsinref07_Parse.l0] at h, fun _ _ _ _ r h => by simp [tocsinref07_Parse.j3] at h, fun _ _ _ _ r h => by simp [tocsinref07_Parse.j4] at h, fun _ _ _ _ r h => by simp [tocsinref07_Parse.l1] at h⟩
  | k + 1 => by
    obtain ⟨ih0, ih1, ih2, ih3, ih4⟩ := tocsinref07_Parse.mono_l k
    refine ⟨?_, ?_, ?_, ?_, ?_⟩
    · intro y0 y1 y2
      unfold tocsinref07_Parse.j0
      repeat' first
      | (with_reducible exact ih0 _ _ _)
      | (with_reducible exact ih1 _ _ _)
      | (with_reducible exact ih2 _ _ _ _)
      | (with_reducible exact ih3 _ _ _ _)
      | (with_reducible exact ih4 _ _ _ _)
      | (with_reducible exact tocsinref07_May.mono _ _)
      | (with_reducible exact tocsinref07_Quoted.mono _ _)
      | (with_reducible exact LeO.refl _)
      | (with_reducible exact LeO.none _)
      | (with_reducible refine LeO.ite ?_ ?_)
      | (with_reducible refine LeO.bind ?_ (fun _ => ?_))
      | exact ih0 _ _ _
      | exact ih1 _ _ _
      | exact ih2 _ _ _ _
      | exact ih3 _ _ _ _
      | exact ih4 _ _ _ _
      | exact tocsinref07_May.mono _ _
      | exact tocsinref07_Quoted.mono _ _
      | exact LeO.none _
      | refine LeO.ite ?_ ?_
      | refine LeO.bind ?_ (fun _ => ?_)
    · intro y0 y1 y2
      unfold tocsinref07_Parse.l0
      repeat' first
      | (with_reducible exact ih0 _ _ _)
      | (with_reducible exact ih1 _ _ _)
      | (with_reducible exact ih2 _ _ _ _)
      | (with_reducible exact ih3 _ _ _ _)
      | (with_reducible exact ih4 _ _ _ _)
      | (with_reducible exact tocsinref07_May.mono _ _)
      | (with_reducible exact tocsinref07_Quoted.mono _ _)
      | (with_reducible exact LeO.refl _)
      | (with_reducible exact LeO.none _)
      | (with_reducible refine LeO.ite ?_ ?_)
      | (with_reducible refine LeO.bind ?_ (fun _ => ?_))
      | exact ih0 _ _ _
      | exact ih1 _ _ _
      | exact ih2 _ _ _ _
      | exact ih3 _ _ _ _
      | exact ih4 _ _ _ _
      | exact tocsinref07_May.mono _ _
      | exact tocsinref07_Quoted.mono _ _
      | exact LeO.none _
      | refine LeO.ite ?_ ?_
      | refine LeO.bind ?_ (fun _ => ?_)
    · intro y0 y1 y2 y3
      unfold tocsinref07_Parse.j3
      repeat' first
      | (with_reducible exact ih0 _ _ _)
      | (with_reducible exact ih1 _ _ _)
      | (with_reducible exact ih2 _ _ _ _)
      | (with_reducible exact ih3 _ _ _ _)
      | (with_reducible exact ih4 _ _ _ _)
      | (with_reducible exact tocsinref07_May.mono _ _)
      | (with_reducible exact tocsinref07_Quoted.mono _ _)
      | (with_reducible exact LeO.refl _)
      | (with_reducible exact LeO.none _)
      | (with_reducible refine LeO.ite ?_ ?_)
      | (with_reducible refine LeO.bind ?_ (fun _ => ?_))
      | exact ih0 _ _ _
      | exact ih1 _ _ _
      | exact ih2 _ _ _ _
      | exact ih3 _ _ _ _
      | exact ih4 _ _ _ _
      | exact tocsinref07_May.mono _ _
      | exact tocsinref07_Quoted.mono _ _
      | exact LeO.none _
      | refine LeO.ite ?_ ?_
      | refine LeO.bind ?_ (fun _ => ?_)
    · intro y0 y1 y2 y3
      unfold tocsinref07_Parse.j4
      repeat' first
      | (with_reducible exact ih0 _ _ _)
      | (with_reducible exact ih1 _ _ _)
      | (with_reducible exact ih2 _ _ _ _)
      | (with_reducible exact ih3 _ _ _ _)
      | (with_reducible exact ih4 _ _ _ _)
      | (with_reducible exact tocsinref07_May.mono _ _)
      | (with_reducible exact tocsinref07_Quoted.mono _ _)
      | (with_reducible exact LeO.refl _)
      | (with_reducible exact LeO.none _)
      | (with_reducible refine LeO.ite ?_ ?_)
      | (with_reducible refine LeO.bind ?_ (fun _ => ?_))
      | exact ih0 _ _ _
      | exact ih1 _ _ _
      | exact ih2 _ _ _ _
      | exact ih3 _ _ _ _
      | exact ih4 _ _ _ _
      | exact tocsinref07_May.mono _ _
      | exact tocsinref07_Quoted.mono _ _
      | exact LeO.none _
      | refine LeO.ite ?_ ?_
      | refine LeO.bind ?_ (fun _ => ?_)
    · intro y0 y1 y2 y3
      unfold tocsinref07_Parse.l1
      repeat' first
      | (with_reducible exact ih0 _ _ _)
      | (with_reducible exact ih1 _ _ _)
      | (with_reducible exact ih2 _ _ _ _)
      | (with_reducible exact ih3 _ _ _ _)
      | (with_reducible exact ih4 _ _ _ _)
      | (with_reducible exact tocsinref07_May.mono _ _)
      | (with_reducible exact tocsinref07_Quoted.mono _ _)
      | (with_reducible exact LeO.refl _)
      | (with_reducible exact LeO.none _)
      | (with_reducible refine LeO.ite ?_ ?_)
      | (with_reducible refine LeO.bind ?_ (fun _ => ?_))
      | exact ih0 _ _ _
      | exact ih1 _ _ _
      | exact ih2 _ _ _ _
      | exact ih3 _ _ _ _
      | exact ih4 _ _ _ _
      | exact tocsinref07_May.mono _ _
      | exact tocsinref07_Quoted.mono _ _
      | exact LeO.none _
      | refine LeO.ite ?_ ?_
      | refine LeO.bind ?_ (fun _ => ?_)
theorem tocsinref07_Parse.mono : ∀ a0 k, LeO (tocsinref07_Parse.f k a0) (tocsinref07_Parse.f (k + 1) a0) := by
  intro a0 k
  obtain ⟨ih0, ih1, ih2, ih3, ih4⟩ := tocsinref07_Parse.mono_l k
  unfold tocsinref07_Parse.f
  repeat' first
      | (with_reducible exact ih0 _ _ _)
      | (with_reducible exact ih1 _ _ _)
      | (with_reducible exact ih2 _ _ _ _)
      | (with_reducible exact ih3 _ _ _ _)
      | (with_reducible exact ih4 _ _ _ _)
      | (with_reducible exact tocsinref07_May.mono _ _)
      | (with_reducible exact tocsinref07_Quoted.mono _ _)
      | (with_reducible exact LeO.refl _)
      | (with_reducible exact LeO.none _)
      | (with_reducible refine LeO.ite ?_ ?_)
      | (with_reducible refine LeO.bind ?_ (fun _ => ?_))
      | exact ih0 _ _ _
      | exact ih1 _ _ _
      | exact ih2 _ _ _ _
      | exact ih3 _ _ _ _
      | exact ih4 _ _ _ _
      | exact tocsinref07_May.mono _ _
      | exact tocsinref07_Quoted.mono _ _
      | exact LeO.none _
      | refine LeO.ite ?_ ?_
      | refine LeO.bind ?_ (fun _ => ?_)
set_option maxHeartbeats 8000000 in
set_option maxRecDepth 100000 in
theorem tocsinref07_Parse.calls (k : Nat) (a0 : ByteArray) (r1 : List (S31)) (r2 : ByteArray) (r3 : Int) (w : World) (h : tocsinref07_Parse.f k a0 = some (r1, r2, r3)) :
    Calls Try.prog 15 #[.string a0] w fun e w' => ∃ v0_ : Value, e = .returned (.tuple #[v0_, .string r2, .int .i64 r3]) ∧ Kd.R k31 31 w' w.heap.size (fun _ => True) v0_ r1 ∧ Below w.heap.size w w' := by
  have hu31 := Try.underlying31
  have HB := Aside0.mk (Below.refl w.heap.size w)
  have H : (if (a0.size : Int) < 2 then (tocsinref07_Parse.j0 k a0 ([] : List (S31)) true) else (if 0 < (a0.size : Int) then (tocsinref07_Parse.j0 k a0 ([] : List (S31)) ((bt a0 0) != 123)) else (none))) = some (r1, r2, r3) := h
  clear h
  have HC2 := Aside0.mk H
  clear H
  go_enter Try.func15, Try.ntmps15
  go_upto_region 2 with (fail)
  repeat (go_quiet (fail); go_upto_region 2 with (fail))
  go_cut [17] (fun v17 wc => ∃ (kq : Nat) (x17_1 : Bool), v17 = .bool x17_1 ∧ Aside0 (tocsinref07_Parse.j0 kq a0 ([] : List (S31)) x17_1 = some (r1, r2, r3)) ∧ Aside0 (kq ≤ k) ∧ Aside0 (Kd.R k31 31 wc w.heap.size (fun _ => True) (.slice none 0 0) ([] : List (S31))) ∧ Aside0 (Below w.heap.size w wc))
  case first =>
    have H := HC2.out
    clear HC2
    by_cases c3 : (a0.size : Int) < 2
    · rw [if_pos c3] at H
      have c3b0 : decide ((a0.size : Int) < 2) = true := decide_eq_true c3
      have c3b1 : decide (a0.size < 2) = true := decide_eq_true (by omega)
      clear c3
      (first | rw [c3b0] | (simp only [i64_w, i32_w]; rw [c3b0]) | skip)
      have H' := Aside0.mk H
      clear H
      go_wp2
      repeat (go_quiet (fail); try go_wp2)
      go_meet
      case rel => exact ⟨_, (true), (by first | rfl | (simp; done) | (simp [*]; done)), H', ⟨by first | omega | exact Nat.le_refl _⟩, ⟨by first | exact Kd.R_nil _ _ _ _ _ | exact Kd.N_nil _ _ _ _ _ | exact Kd.V_nil _ _ _ _ _ | exact Kd.Q_nil _ _ _ _ _ | exact Kd.S_nil _ _ _ _ _⟩, ⟨by repeat (first | (with_reducible first | exact HB.out | apply below_alloc | apply pw_below_drewN | apply below_drew1) | exact HB.out)⟩⟩
    · rw [if_neg c3] at H
      have c3b0 : decide ((a0.size : Int) < 2) = false := decide_eq_false c3
      have c3b1 : decide (a0.size < 2) = false := decide_eq_false (by omega)
      clear c3
      (first | rw [c3b0] | (simp only [i64_w, i32_w]; rw [c3b0]) | skip)
      by_cases c4 : 0 < (a0.size : Int)
      · rw [if_pos c4] at H
        have c4b0 : decide (0 < (a0.size : Int)) = true := decide_eq_true c4
        have c4b1 : decide (0 < a0.size) = true := decide_eq_true (by omega)
        clear c4
        have H' := Aside0.mk H
        clear H
        have p5 : 0 ≤ (0 : Int) := (by omega)
        have q5 : 0 < a0.size := (by have : (0 : Int) < (a0.size : Int) := of_decide_eq_true (by first | (with_reducible assumption) | assumption); omega)
        have hx5 : ∀ h : 0 < a0.size, ((a0[0]'h).toNat : Int) = bt a0 0 := bt_at a0 0
        clear p5
        have qi5 : (0 < (a0.size : Int)) = True := eq_true (of_decide_eq_true (by first | (with_reducible assumption) | assumption))
        replace q5 := eq_true q5
        go_wp2
        repeat (go_quiet (fail); try go_wp2)
        go_meet
        case rel => exact ⟨_, (((bt a0 0) != 123)), (by first | rfl | (simp; done) | (simp [*]; done)), H', ⟨by first | omega | exact Nat.le_refl _⟩, ⟨by first | exact Kd.R_nil _ _ _ _ _ | exact Kd.N_nil _ _ _ _ _ | exact Kd.V_nil _ _ _ _ _ | exact Kd.Q_nil _ _ _ _ _ | exact Kd.S_nil _ _ _ _ _⟩, ⟨by repeat (first | (with_reducible first | exact HB.out | apply below_alloc | apply pw_below_drewN | apply below_drew1) | exact HB.out)⟩⟩
      · rw [if_neg c4] at H
        exact absurd H (by simp)
  case rest =>
    clear HC2
    try clear c1
    try clear p2
    try clear c3
    try clear c3b0
    try clear c3b1
    try clear c4
    try clear c4b0
    try clear c4b1
    try clear p5
    try clear q5
    try clear hx5
    try clear qi5
    try clear p5
    try clear q5
    obtain ⟨kq, x17_1, rfl, HA, HJ1, HO_5, HB⟩ := hcut
    cases kq with
    | zero => exact absurd HA.out (by simp [tocsinref07_Parse.j0])
    | succ kj1 =>
      have H := HA.out
      clear HA
      simp only [tocsinref07_Parse.j0] at H
      by_cases c6 : x17_1 = true
      · subst c6
        have H1 : (some (([] : List (S31)), (⟨#[]⟩ : ByteArray), 70)) = some (r1, r2, r3) := by rw [if_pos rfl] at H; exact H
        clear H
        have H := H1
        clear H1
        simp only [Option.some.injEq, Prod.mk.injEq] at H
        obtain ⟨rfl, rfl, rfl⟩ := H
        go_wp2
        repeat (go_quiet (fail); try go_wp2)
        go_ret3
        exact ⟨_, by first | rfl | (simp [errW_none, errW_some] <;> rfl) | (simp [*, errW_none, errW_some] <;> rfl), by first | exact Kd.R_nil _ _ _ _ _ | exact Kd.N_nil _ _ _ _ _ | exact Kd.V_nil _ _ _ _ _ | exact Kd.Q_nil _ _ _ _ _ | exact Kd.S_nil _ _ _ _ _, by repeat (first | (with_reducible first | exact HB.out | apply below_alloc | apply pw_below_drewN | apply below_drew1) | exact HB.out)⟩
      · replace c6 := Bool.eq_false_iff.mpr c6
        subst c6
        have H1 : (tocsinref07_Parse.l0 kj1 a0 ([] : List (S31)) 1) = some (r1, r2, r3) := by rw [if_neg (show ¬ (false = true) by decide)] at H; exact H
        clear H
        have H := H1
        clear H1
        have H' := Aside0.mk H
        clear H
        go_wp2
        repeat (go_quiet (fail); try go_wp2)
        go_loopg [5, 6] kj1 (fun kq v5 v6 w' => ∃ (x5_2 : List (S31)) (x6_2 : Int), v6 = .int .i64 x6_2 ∧ Aside0 (tocsinref07_Parse.l0 kq a0 x5_2 x6_2 = some (r1, r2, r3)) ∧ Aside0 (kq ≤ kj1) ∧ Aside0 (Kd.R k31 31 w' w.heap.size (fun _ => True) v5 x5_2) ∧ Aside0 (Below w.heap.size w w'))
        case atStart => exact ⟨(([] : List (S31))), (1), (by first | rfl | (simp; done) | (simp [*]; done)), H', ⟨Nat.le_refl _⟩, ⟨by (with_reducible repeat (first | apply Kd.R_alloc | apply Kd.R_drewN | apply Kd.R_drew)); exact HO_5.out⟩, ⟨by repeat (first | (with_reducible first | exact HB.out | apply below_alloc | apply pw_below_drewN | apply below_drew1) | exact HB.out)⟩⟩
        case round =>
          clear H'
          try clear c1
          try clear p2
          try clear c3
          try clear c3b0
          try clear c3b1
          try clear c4
          try clear c4b0
          try clear c4b1
          try clear p5
          try clear q5
          try clear hx5
          try clear qi5
          try clear c6
          try clear p2
          try clear p5
          try clear q5
          obtain ⟨x5_2, x6_2, rfl, HA, HK2, HO_5, HB⟩ := hrel
          cases gk with
          | zero => exact absurd HA.out (by simp [tocsinref07_Parse.l0])
          | succ k2 =>
            have H := HA.out
            clear HA
            simp only [tocsinref07_Parse.l0] at H
            by_cases c7 : 0 ≤ x6_2
            · rw [if_pos c7] at H
              have c7b0 : decide (0 ≤ x6_2) = true := decide_eq_true c7
              clear c7
              by_cases c8 : x6_2 < (a0.size : Int)
              · rw [if_pos c8] at H
                have c8b0 : decide (x6_2 < (a0.size : Int)) = true := decide_eq_true c8
                clear c8
                by_cases c10 : (bt a0 x6_2) = 125
                · rw [if_pos c10] at H
                  have c10b0 : ((bt a0 x6_2) == 125) = true := beq_iff_eq.mpr c10
                  have c10b1 : ((bt a0 x6_2) != 125) = false := bne_eq_false_iff_eq.mpr c10
                  clear c10
                  replace H := Option.bind_eq_some_iff.mp H
                  obtain ⟨t127, A110, H⟩ := H
                  replace H : (if t127 = true then (if 0 ≤ (wrap64 (x6_2 + 1)) then (if (wrap64 (x6_2 + 1)) ≤ (a0.size : Int) then (some (x5_2, a0.extract ((wrap64 (x6_2 + 1)) : Int).toNat a0.size, 0)) else (none)) else (none)) else (some (([] : List (S31)), (⟨#[]⟩ : ByteArray), 70))) = some (r1, r2, r3) := H
                  have A11 := Aside0.mk A110
                  clear A110
                  by_cases c12 : t127 = true
                  · subst c12
                    have H1 : (if 0 ≤ (wrap64 (x6_2 + 1)) then (if (wrap64 (x6_2 + 1)) ≤ (a0.size : Int) then (some (x5_2, a0.extract ((wrap64 (x6_2 + 1)) : Int).toNat a0.size, 0)) else (none)) else (none)) = some (r1, r2, r3) := by rw [if_pos rfl] at H; exact H
                    clear H
                    have H := H1
                    clear H1
                    obtain ⟨ji13, hji13⟩ : ∃ j_ : Int, (wrap64 (x6_2 + 1)) = j_ := ⟨_, rfl⟩
                    replace H : (if 0 ≤ (ji13) then (if (ji13) ≤ (a0.size : Int) then (some (x5_2, a0.extract ((ji13) : Int).toNat a0.size, 0)) else (none)) else (none)) = some (r1, r2, r3) := by first | (rw [hji13] at H; exact H) | (simp only [hji13] at H ⊢; exact H)
                    (try rw [hji13] at A11)
                    have hji13w : (IntKind.i64.wrap (x6_2 + 1)) = ji13 := (i64_w _).trans hji13
                    by_cases c14 : 0 ≤ (ji13)
                    · rw [if_pos c14] at H
                      have c14b0 := eq_true c14
                      have c14b1 : decide (0 ≤ (ji13)) = true := decide_eq_true c14
                      clear c14
                      by_cases c15 : (ji13) ≤ (a0.size : Int)
                      · rw [if_pos c15] at H
                        have c15b0 := eq_true c15
                        have c15b1 : decide ((ji13) ≤ (a0.size : Int)) = true := decide_eq_true c15
                        clear c15
                        simp only [Option.some.injEq, Prod.mk.injEq] at H
                        obtain ⟨rfl, rfl, rfl⟩ := H
                        have p9 : 0 ≤ (x6_2 : Int) := of_decide_eq_true (by first | (with_reducible assumption) | assumption)
                        have q9 : x6_2 < (a0.size : Int) := of_decide_eq_true (by first | (with_reducible assumption) | assumption)
                        have hx9 := bt_at a0 x6_2
                        replace p9 := eq_true p9
                        replace q9 := eq_true q9
                        obtain ⟨Ao16, co16, eo16⟩ := Kd.R_slice HO_5.out
                        subst eo16
                        go_wp2_with (first | (go_at_call 20; (with_reducible refine (tocsinref07_May.calls k2 _ _ x5_2 true _ ?side1 ?side2 A11.out).mono ?_); (case side1 => repeat (first | exact (Kd.R_reads' HO_5.out).2.2 | (with_reducible refine Kd.C_alloc ?_ _) | (with_reducible refine Kd.C_drewN ?_ _) | (with_reducible refine Kd.C_drew ?_))); (case side2 => exact (Kd.R_reads' HO_5.out).2.1); rintro e w17 ⟨rfl, hb⟩; have n0_ := Aside0.mk (Kd.R_below (by (with_reducible repeat (first | apply Kd.R_alloc | apply Kd.R_drewN | apply Kd.R_drew)); exact HO_5.out) hb); have n1_ := Aside0.mk (below_step (by repeat (first | (with_reducible first | exact HB.out | apply below_alloc | apply pw_below_drewN | apply below_drew1) | exact HB.out)) hb); clear HO_5; clear HB; have HO_5 := n0_; have HB := n1_; clear n0_ n1_; (try clear hb); (try clear hb2); (try clear hk); (try clear hi)))
                        repeat (go_quiet (first | (go_at_call 20; (with_reducible refine (tocsinref07_May.calls k2 _ _ x5_2 true _ ?side1 ?side2 A11.out).mono ?_); (case side1 => repeat (first | exact (Kd.R_reads' HO_5.out).2.2 | (with_reducible refine Kd.C_alloc ?_ _) | (with_reducible refine Kd.C_drewN ?_ _) | (with_reducible refine Kd.C_drew ?_))); (case side2 => exact (Kd.R_reads' HO_5.out).2.1); rintro e w17 ⟨rfl, hb⟩; have n0_ := Aside0.mk (Kd.R_below (by (with_reducible repeat (first | apply Kd.R_alloc | apply Kd.R_drewN | apply Kd.R_drew)); exact HO_5.out) hb); have n1_ := Aside0.mk (below_step (by repeat (first | (with_reducible first | exact HB.out | apply below_alloc | apply pw_below_drewN | apply below_drew1) | exact HB.out)) hb); clear HO_5; clear HB; have HO_5 := n0_; have HB := n1_; clear n0_ n1_; (try clear hb); (try clear hb2); (try clear hk); (try clear hi))); try go_wp2_with (first | (go_at_call 20; (with_reducible refine (tocsinref07_May.calls k2 _ _ x5_2 true _ ?side1 ?side2 A11.out).mono ?_); (case side1 => repeat (first | exact (Kd.R_reads' HO_5.out).2.2 | (with_reducible refine Kd.C_alloc ?_ _) | (with_reducible refine Kd.C_drewN ?_ _) | (with_reducible refine Kd.C_drew ?_))); (case side2 => exact (Kd.R_reads' HO_5.out).2.1); rintro e w17 ⟨rfl, hb⟩; have n0_ := Aside0.mk (Kd.R_below (by (with_reducible repeat (first | apply Kd.R_alloc | apply Kd.R_drewN | apply Kd.R_drew)); exact HO_5.out) hb); have n1_ := Aside0.mk (below_step (by repeat (first | (with_reducible first | exact HB.out | apply below_alloc | apply pw_below_drewN | apply below_drew1) | exact HB.out)) hb); clear HO_5; clear HB; have HO_5 := n0_; have HB := n1_; clear n0_ n1_; (try clear hb); (try clear hb2); (try clear hk); (try clear hi))))
                        go_ret3
                        exact ⟨_, by first | rfl | (simp [errW_none, errW_some] <;> rfl) | (simp only [← hji13]; first | rfl | (simp [errW_none, errW_some] <;> rfl)) | (simp [*, errW_none, errW_some] <;> rfl), by (with_reducible repeat (first | apply Kd.R_alloc | apply Kd.R_drewN | apply Kd.R_drew)); exact HO_5.out, by repeat (first | (with_reducible first | exact HB.out | apply below_alloc | apply pw_below_drewN | apply below_drew1) | exact HB.out)⟩
                      · rw [if_neg c15] at H
                        exact absurd H (by simp)
                    · rw [if_neg c14] at H
                      exact absurd H (by simp)
                  · replace c12 := Bool.eq_false_iff.mpr c12
                    subst c12
                    have H1 : (some (([] : List (S31)), (⟨#[]⟩ : ByteArray), 70)) = some (r1, r2, r3) := by rw [if_neg (show ¬ (false = true) by decide)] at H; exact H
                    clear H
                    have H := H1
                    clear H1
                    simp only [Option.some.injEq, Prod.mk.injEq] at H
                    obtain ⟨rfl, rfl, rfl⟩ := H
                    have p9 : 0 ≤ (x6_2 : Int) := of_decide_eq_true (by first | (with_reducible assumption) | assumption)
                    have q9 : x6_2 < (a0.size : Int) := of_decide_eq_true (by first | (with_reducible assumption) | assumption)
                    have hx9 := bt_at a0 x6_2
                    replace p9 := eq_true p9
                    replace q9 := eq_true q9
                    obtain ⟨Ao18, co18, eo18⟩ := Kd.R_slice HO_5.out
                    subst eo18
                    go_wp2_with (first | (go_at_call 20; (with_reducible refine (tocsinref07_May.calls k2 _ _ x5_2 false _ ?side1 ?side2 A11.out).mono ?_); (case side1 => repeat (first | exact (Kd.R_reads' HO_5.out).2.2 | (with_reducible refine Kd.C_alloc ?_ _) | (with_reducible refine Kd.C_drewN ?_ _) | (with_reducible refine Kd.C_drew ?_))); (case side2 => exact (Kd.R_reads' HO_5.out).2.1); rintro e w19 ⟨rfl, hb⟩; have n0_ := Aside0.mk (Kd.R_below (by (with_reducible repeat (first | apply Kd.R_alloc | apply Kd.R_drewN | apply Kd.R_drew)); exact HO_5.out) hb); have n1_ := Aside0.mk (below_step (by repeat (first | (with_reducible first | exact HB.out | apply below_alloc | apply pw_below_drewN | apply below_drew1) | exact HB.out)) hb); clear HO_5; clear HB; have HO_5 := n0_; have HB := n1_; clear n0_ n1_; (try clear hb); (try clear hb2); (try clear hk); (try clear hi)))
                    repeat (go_quiet (first | (go_at_call 20; (with_reducible refine (tocsinref07_May.calls k2 _ _ x5_2 false _ ?side1 ?side2 A11.out).mono ?_); (case side1 => repeat (first | exact (Kd.R_reads' HO_5.out).2.2 | (with_reducible refine Kd.C_alloc ?_ _) | (with_reducible refine Kd.C_drewN ?_ _) | (with_reducible refine Kd.C_drew ?_))); (case side2 => exact (Kd.R_reads' HO_5.out).2.1); rintro e w19 ⟨rfl, hb⟩; have n0_ := Aside0.mk (Kd.R_below (by (with_reducible repeat (first | apply Kd.R_alloc | apply Kd.R_drewN | apply Kd.R_drew)); exact HO_5.out) hb); have n1_ := Aside0.mk (below_step (by repeat (first | (with_reducible first | exact HB.out | apply below_alloc | apply pw_below_drewN | apply below_drew1) | exact HB.out)) hb); clear HO_5; clear HB; have HO_5 := n0_; have HB := n1_; clear n0_ n1_; (try clear hb); (try clear hb2); (try clear hk); (try clear hi))); try go_wp2_with (first | (go_at_call 20; (with_reducible refine (tocsinref07_May.calls k2 _ _ x5_2 false _ ?side1 ?side2 A11.out).mono ?_); (case side1 => repeat (first | exact (Kd.R_reads' HO_5.out).2.2 | (with_reducible refine Kd.C_alloc ?_ _) | (with_reducible refine Kd.C_drewN ?_ _) | (with_reducible refine Kd.C_drew ?_))); (case side2 => exact (Kd.R_reads' HO_5.out).2.1); rintro e w19 ⟨rfl, hb⟩; have n0_ := Aside0.mk (Kd.R_below (by (with_reducible repeat (first | apply Kd.R_alloc | apply Kd.R_drewN | apply Kd.R_drew)); exact HO_5.out) hb); have n1_ := Aside0.mk (below_step (by repeat (first | (with_reducible first | exact HB.out | apply below_alloc | apply pw_below_drewN | apply below_drew1) | exact HB.out)) hb); clear HO_5; clear HB; have HO_5 := n0_; have HB := n1_; clear n0_ n1_; (try clear hb); (try clear hb2); (try clear hk); (try clear hi))))
                    go_ret3
                    exact ⟨_, by first | rfl | (simp [errW_none, errW_some] <;> rfl) | (simp [*, errW_none, errW_some] <;> rfl), by first | exact Kd.R_nil _ _ _ _ _ | exact Kd.N_nil _ _ _ _ _ | exact Kd.V_nil _ _ _ _ _ | exact Kd.Q_nil _ _ _ _ _ | exact Kd.S_nil _ _ _ _ _, by repeat (first | (with_reducible first | exact HB.out | apply below_alloc | apply pw_below_drewN | apply below_drew1) | exact HB.out)⟩
                · rw [if_neg c10] at H
                  have c10b0 : ((bt a0 x6_2) == 125) = false := beq_eq_false_iff_ne.mpr c10
                  have c10b1 : ((bt a0 x6_2) != 125) = true := bne_iff_ne.mpr c10
                  have HC20 := Aside0.mk H
                  clear H
                  have p9 : 0 ≤ (x6_2 : Int) := of_decide_eq_true (by first | (with_reducible assumption) | assumption)
                  have q9 : x6_2 < (a0.size : Int) := of_decide_eq_true (by first | (with_reducible assumption) | assumption)
                  have hx9 := bt_at a0 x6_2
                  replace p9 := eq_true p9
                  replace q9 := eq_true q9
                  go_upto_block 2 with (fail)
                  repeat (go_quiet (fail); go_upto_block 2 with (fail))
                  go_cut [7] (fun v7 wc => ∃ (kq : Nat) (x7_19 : Int), v7 = .int .i64 x7_19 ∧ Aside0 (tocsinref07_Parse.j3 kq a0 x5_2 x6_2 x7_19 = some (r1, r2, r3)) ∧ Aside0 (kq ≤ k2) ∧ Aside0 (Kd.R k31 31 wc w.heap.size (fun _ => True) u5 x5_2) ∧ Aside0 (Below w.heap.size w wc))
                  case first =>
                    have H := HC20.out
                    clear HC20
                    have H' := Aside0.mk H
                    clear H
                    go_wp2
                    repeat (go_quiet (fail); try go_wp2)
                    go_loopg [7] k2 (fun kq v7 w' => ∃ (x7_3 : Int), v7 = .int .i64 x7_3 ∧ Aside0 (tocsinref07_Parse.l1 kq a0 x5_2 x6_2 x7_3 = some (r1, r2, r3)) ∧ Aside0 (kq ≤ k2) ∧ Aside0 (Kd.R k31 31 w' w.heap.size (fun _ => True) u5 x5_2) ∧ Aside0 (Below w.heap.size w w'))
                    case atStart => exact ⟨(x6_2), (by first | rfl | (simp; done) | (simp [*]; done)), H', ⟨Nat.le_refl _⟩, ⟨by (with_reducible repeat (first | apply Kd.R_alloc | apply Kd.R_drewN | apply Kd.R_drew)); exact HO_5.out⟩, ⟨by repeat (first | (with_reducible first | exact HB.out | apply below_alloc | apply pw_below_drewN | apply below_drew1) | exact HB.out)⟩⟩
                    case round =>
                      clear H'
                      try clear c1
                      try clear p2
                      try clear c3
                      try clear c3b0
                      try clear c3b1
                      try clear c4
                      try clear c4b0
                      try clear c4b1
                      try clear p5
                      try clear q5
                      try clear hx5
                      try clear qi5
                      try clear c6
                      try clear p6
                      try clear c7
                      try clear c7b0
                      try clear c8
                      try clear c8b0
                      try clear p9
                      try clear q9
                      try clear hx9
                      try clear c10
                      try clear c10b0
                      try clear c10b1
                      try clear c12
                      try clear c14
                      try clear c14b0
                      try clear c14b1
                      try clear c15
                      try clear c15b0
                      try clear c15b1
                      try clear p2
                      try clear p5
                      try clear p9
                      try clear q5
                      try clear q9
                      obtain ⟨x7_3, rfl, HA, HK3, HO_5, HB⟩ := hrel
                      cases gk with
                      | zero => exact absurd HA.out (by simp [tocsinref07_Parse.l1])
                      | succ k3 =>
                        have H := HA.out
                        clear HA
                        simp only [tocsinref07_Parse.l1] at H
                        by_cases c21 : x7_3 < (a0.size : Int)
                        · rw [if_pos c21] at H
                          have c21b0 : decide (x7_3 < (a0.size : Int)) = true := decide_eq_true c21
                          clear c21
                          (first | rw [c21b0] | (simp only [i64_w, i32_w]; rw [c21b0]) | skip)
                          by_cases c22 : 0 ≤ x7_3
                          · rw [if_pos c22] at H
                            have c22b0 : decide (0 ≤ x7_3) = true := decide_eq_true c22
                            clear c22
                            by_cases c24 : (bt a0 x7_3) = 61
                            · rw [if_pos c24] at H
                              have c24b0 : ((bt a0 x7_3) == 61) = true := beq_iff_eq.mpr c24
                              have c24b1 : ((bt a0 x7_3) != 61) = false := bne_eq_false_iff_eq.mpr c24
                              clear c24
                              have H' := Aside0.mk H
                              clear H
                              have p23 : 0 ≤ (x7_3 : Int) := of_decide_eq_true (by first | (with_reducible assumption) | assumption)
                              have q23 : x7_3 < (a0.size : Int) := of_decide_eq_true (by first | (with_reducible assumption) | assumption)
                              have hx23 := bt_at a0 x7_3
                              replace p23 := eq_true p23
                              replace q23 := eq_true q23
                              go_wp2
                              repeat (go_quiet (fail); try go_wp2)
                              go_meet
                              case rel => exact ⟨_, (x7_3), (by first | rfl | (simp; done) | (simp [*]; done)), H', ⟨by have := HJ1.out; have := HK2.out; have := HK3.out; first | omega | exact Nat.le_refl _⟩, ⟨by (with_reducible repeat (first | apply Kd.R_alloc | apply Kd.R_drewN | apply Kd.R_drew)); exact HO_5.out⟩, ⟨by repeat (first | (with_reducible first | exact HB.out | apply below_alloc | apply pw_below_drewN | apply below_drew1) | exact HB.out)⟩⟩
                            · rw [if_neg c24] at H
                              have c24b0 : ((bt a0 x7_3) == 61) = false := beq_eq_false_iff_ne.mpr c24
                              have c24b1 : ((bt a0 x7_3) != 61) = true := bne_iff_ne.mpr c24
                              have H' := Aside0.mk H
                              clear H
                              have p23 : 0 ≤ (x7_3 : Int) := of_decide_eq_true (by first | (with_reducible assumption) | assumption)
                              have q23 : x7_3 < (a0.size : Int) := of_decide_eq_true (by first | (with_reducible assumption) | assumption)
                              have hx23 := bt_at a0 x7_3
                              replace p23 := eq_true p23
                              replace q23 := eq_true q23
                              go_wp2
                              repeat (go_quiet (fail); try go_wp2)
                              go_roundg k3
                              case measure => have := HJ1.out; have := HK2.out; have := HK3.out; omega
                              case rel => exact ⟨(wrap64 (x7_3 + 1)), (by first | rfl | (simp; done) | (simp [*]; done)), H', ⟨by have := HJ1.out; have := HK2.out; have := HK3.out; omega⟩, ⟨by (with_reducible repeat (first | apply Kd.R_alloc | apply Kd.R_drewN | apply Kd.R_drew)); exact HO_5.out⟩, ⟨by repeat (first | (with_reducible first | exact HB.out | apply below_alloc | apply pw_below_drewN | apply below_drew1) | exact HB.out)⟩⟩
                          · rw [if_neg c22] at H
                            exact absurd H (by simp)
                        · rw [if_neg c21] at H
                          have c21b0 : decide (x7_3 < (a0.size : Int)) = false := decide_eq_false c21
                          clear c21
                          (first | rw [c21b0] | (simp only [i64_w, i32_w]; rw [c21b0]) | skip)
                          have H' := Aside0.mk H
                          clear H
                          go_wp2
                          repeat (go_quiet (fail); try go_wp2)
                          go_meet
                          case rel => exact ⟨_, (x7_3), (by first | rfl | (simp; done) | (simp [*]; done)), H', ⟨by have := HJ1.out; have := HK2.out; have := HK3.out; first | omega | exact Nat.le_refl _⟩, ⟨by (with_reducible repeat (first | apply Kd.R_alloc | apply Kd.R_drewN | apply Kd.R_drew)); exact HO_5.out⟩, ⟨by repeat (first | (with_reducible first | exact HB.out | apply below_alloc | apply pw_below_drewN | apply below_drew1) | exact HB.out)⟩⟩
                  case rest =>
                    clear HC20
                    try clear c1
                    try clear c2
                    try clear p2
                    try clear q2
                    try clear hx2
                    try clear c3
                    try clear c3b0
                    try clear c3b1
                    try clear c4
                    try clear c4b0
                    try clear c4b1
                    try clear p5
                    try clear q5
                    try clear hx5
                    try clear qi5
                    try clear c6
                    try clear p6
                    try clear c7
                    try clear c7b0
                    try clear c8
                    try clear c8b0
                    try clear p9
                    try clear q9
                    try clear hx9
                    try clear c10
                    try clear c10b0
                    try clear c10b1
                    try clear c12
                    try clear c14
                    try clear c14b0
                    try clear c14b1
                    try clear c15
                    try clear c15b0
                    try clear c15b1
                    try clear c21
                    try clear c21b0
                    try clear c22
                    try clear c22b0
                    try clear p23
                    try clear q23
                    try clear hx23
                    try clear c24
                    try clear c24b0
                    try clear c24b1
                    try clear p2
                    try clear p23
                    try clear p5
                    try clear p6
                    try clear p9
                    try clear q23
                    try clear q5
                    try clear q9
                    obtain ⟨kq, x7_19, rfl, HA, HJ19, HO_5, HB⟩ := hcut
                    cases kq with
                    | zero => exact absurd HA.out (by simp [tocsinref07_Parse.j3])
                    | succ kj19 =>
                      have H := HA.out
                      clear HA
                      simp only [tocsinref07_Parse.j3] at H
                      by_cases c25 : x7_19 = (a0.size : Int)
                      · rw [if_pos c25] at H
                        have c25b0 : (x7_19 == (a0.size : Int)) = true := beq_iff_eq.mpr c25
                        have c25b1 : (x7_19 != (a0.size : Int)) = false := bne_eq_false_iff_eq.mpr c25
                        clear c25
                        simp only [Option.some.injEq, Prod.mk.injEq] at H
                        obtain ⟨rfl, rfl, rfl⟩ := H
                        go_wp2
                        repeat (go_quiet (fail); try go_wp2)
                        go_ret3
                        exact ⟨_, by first | rfl | (simp [errW_none, errW_some] <;> rfl) | (simp [*, errW_none, errW_some] <;> rfl), by first | exact Kd.R_nil _ _ _ _ _ | exact Kd.N_nil _ _ _ _ _ | exact Kd.V_nil _ _ _ _ _ | exact Kd.Q_nil _ _ _ _ _ | exact Kd.S_nil _ _ _ _ _, by repeat (first | (with_reducible first | exact HB.out | apply below_alloc | apply pw_below_drewN | apply below_drew1) | exact HB.out)⟩
                      · rw [if_neg c25] at H
                        have c25b0 : (x7_19 == (a0.size : Int)) = false := beq_eq_false_iff_ne.mpr c25
                        have c25b1 : (x7_19 != (a0.size : Int)) = true := bne_iff_ne.mpr c25
                        obtain ⟨ji26, hji26⟩ : ∃ j_ : Int, (wrap64 (x7_19 + 1)) = j_ := ⟨_, rfl⟩
                        replace H : (if 0 ≤ (ji26) then (if (ji26) ≤ (a0.size : Int) then ((tocsinref07_Quoted.f kj19 (a0.extract ((ji26) : Int).toNat a0.size)).bind fun bt128 => (if 0 ≤ x6_2 then (if x6_2 ≤ x7_19 then (if x7_19 ≤ (a0.size : Int) then (if x5_2.length < 4398046511104 then ((some (x5_2 ++ [(⟨a0.extract (x6_2 : Int).toNat (x7_19 : Int).toNat, bt128.1⟩ : S31)] : List (S31))).bind fun y130 => (if bt128.2 = 0 then (tocsinref07_Parse.j4 kj19 a0 y130 (wrap64 ((ji26) + bt128.2)) true) else (if (wrap64 ((ji26) + bt128.2)) ≥ (a0.size : Int) then (tocsinref07_Parse.j4 kj19 a0 y130 (wrap64 ((ji26) + bt128.2)) true) else (if 0 ≤ (wrap64 ((ji26) + bt128.2)) then (if (wrap64 ((ji26) + bt128.2)) < (a0.size : Int) then (if (bt a0 (wrap64 ((ji26) + bt128.2))) = 44 then (tocsinref07_Parse.j4 kj19 a0 y130 (wrap64 ((ji26) + bt128.2)) (decide ((y130.length : Int) > 4))) else (if (bt a0 (wrap64 ((ji26) + bt128.2))) = 125 then (tocsinref07_Parse.j4 kj19 a0 y130 (wrap64 ((ji26) + bt128.2)) (decide ((y130.length : Int) > 4))) else (tocsinref07_Parse.j4 kj19 a0 y130 (wrap64 ((ji26) + bt128.2)) true))) else (none)) else (none))))) else (none)) else (none)) else (none)) else (none))) else (none)) else (none)) = some (r1, r2, r3) := by first | (rw [hji26] at H; exact H) | (simp only [hji26] at H ⊢; exact H)
                        have hji26w : (IntKind.i64.wrap (x7_19 + 1)) = ji26 := (i64_w _).trans hji26
                        by_cases c27 : 0 ≤ (ji26)
                        · rw [if_pos c27] at H
                          have c27b0 := eq_true c27
                          have c27b1 : decide (0 ≤ (ji26)) = true := decide_eq_true c27
                          clear c27
                          by_cases c28 : (ji26) ≤ (a0.size : Int)
                          · rw [if_pos c28] at H
                            have c28b0 := eq_true c28
                            have c28b1 : decide ((ji26) ≤ (a0.size : Int)) = true := decide_eq_true c28
                            clear c28
                            replace H := Option.bind_eq_some_iff.mp H
                            obtain ⟨⟨t128, t129⟩, A290, H⟩ := H
                            replace H : (if 0 ≤ x6_2 then (if x6_2 ≤ x7_19 then (if x7_19 ≤ (a0.size : Int) then (if x5_2.length < 4398046511104 then ((some (x5_2 ++ [(⟨a0.extract (x6_2 : Int).toNat (x7_19 : Int).toNat, t128⟩ : S31)] : List (S31))).bind fun y130 => (if t129 = 0 then (tocsinref07_Parse.j4 kj19 a0 y130 (wrap64 ((ji26) + t129)) true) else (if (wrap64 ((ji26) + t129)) ≥ (a0.size : Int) then (tocsinref07_Parse.j4 kj19 a0 y130 (wrap64 ((ji26) + t129)) true) else (if 0 ≤ (wrap64 ((ji26) + t129)) then (if (wrap64 ((ji26) + t129)) < (a0.size : Int) then (if (bt a0 (wrap64 ((ji26) + t129))) = 44 then (tocsinref07_Parse.j4 kj19 a0 y130 (wrap64 ((ji26) + t129)) (decide ((y130.length : Int) > 4))) else (if (bt a0 (wrap64 ((ji26) + t129))) = 125 then (tocsinref07_Parse.j4 kj19 a0 y130 (wrap64 ((ji26) + t129)) (decide ((y130.length : Int) > 4))) else (tocsinref07_Parse.j4 kj19 a0 y130 (wrap64 ((ji26) + t129)) true))) else (none)) else (none))))) else (none)) else (none)) else (none)) else (none)) = some (r1, r2, r3) := H
                            have A29 := Aside0.mk A290
                            clear A290
                            by_cases c30 : 0 ≤ x6_2
                            · rw [if_pos c30] at H
                              have c30b0 := eq_true c30
                              have c30b1 : decide (0 ≤ x6_2) = true := decide_eq_true c30
                              clear c30
                              by_cases c31 : x6_2 ≤ x7_19
                              · rw [if_pos c31] at H
                                have c31b0 := eq_true c31
                                have c31b1 : decide (x6_2 ≤ x7_19) = true := decide_eq_true c31
                                clear c31
                                by_cases c32 : x7_19 ≤ (a0.size : Int)
                                · rw [if_pos c32] at H
                                  have c32b0 := eq_true c32
                                  have c32b1 : decide (x7_19 ≤ (a0.size : Int)) = true := decide_eq_true c32
                                  clear c32
                                  by_cases c33 : x5_2.length < 4398046511104
                                  · rw [if_pos c33] at H
                                    have LMc33 := Aside0.mk c33
                                    clear c33
                                    obtain ⟨y130, hy130⟩ : ∃ y_ : List (S31), y_ = (x5_2 ++ [(⟨a0.extract (x6_2 : Int).toNat (x7_19 : Int).toNat, t128⟩ : S31)]) := ⟨_, rfl⟩
                                    replace H : (if t129 = 0 then (tocsinref07_Parse.j4 kj19 a0 y130 (wrap64 ((ji26) + t129)) true) else (if (wrap64 ((ji26) + t129)) ≥ (a0.size : Int) then (tocsinref07_Parse.j4 kj19 a0 y130 (wrap64 ((ji26) + t129)) true) else (if 0 ≤ (wrap64 ((ji26) + t129)) then (if (wrap64 ((ji26) + t129)) < (a0.size : Int) then (if (bt a0 (wrap64 ((ji26) + t129))) = 44 then (tocsinref07_Parse.j4 kj19 a0 y130 (wrap64 ((ji26) + t129)) (decide ((y130.length : Int) > 4))) else (if (bt a0 (wrap64 ((ji26) + t129))) = 125 then (tocsinref07_Parse.j4 kj19 a0 y130 (wrap64 ((ji26) + t129)) (decide ((y130.length : Int) > 4))) else (tocsinref07_Parse.j4 kj19 a0 y130 (wrap64 ((ji26) + t129)) true))) else (none)) else (none)))) = some (r1, r2, r3) := by first | (rw [hy130]; with_reducible exact H) | (have H2_ := (Option.bind_some _ _).symm.trans H; rw [hy130]; with_reducible exact H2_) | (have H2_ := (Option.bind_some _ _).symm.trans H; with_reducible exact H2_) | with_reducible exact H | (rw [hy130]; exact H) | exact H
                                    have Ny130 := Aside0.mk hy130
                                    clear hy130
                                    have HC34 := Aside0.mk H
                                    clear H
                                    go_upto_region 14 with (first | (go_at_call 34; (with_reducible refine (tocsinref07_Quoted.calls kj19 (a0.extract ((ji26) : Int).toNat a0.size) t128 t129 _ A29.out).mono ?_); rintro e w' ⟨rfl, ⟨nd, rfl⟩⟩; (try first | exact ⟨rfl, _, World.drewN_drewN _ _ _⟩ | exact ⟨rfl, _, Eq.trans (World.drewN_drewN _ _ _) (congrArg (World.drewN _) (Nat.add_assoc _ _ _))⟩)) | ((with_reducible refine gate_builtin (b := .append) (xs := #[.tmp 47, .tmp 54]) rfl ?_); (try (refine gate_guard (by rfl) ?_; dsimp only)); at_builtin; refine Kd.R_append k31 (w0 := w) w.heap.size rfl (.tmp 47) (.tmp 54) 22 31 (.agg #[(.string ⟨#[]⟩), (.string ⟨#[]⟩)]) 32 rfl Try.underlying22 info31 rfl (by decide) (by omega) u5 x5_2 (⟨a0.extract (x6_2 : Int).toNat (x7_19 : Int).toNat, t128⟩ : S31) [.string (a0.extract (x6_2 : Int).toNat (x7_19 : Int).toNat), .string t128] (fun _ => True) (fun _ => False) rfl rfl ?aP (fun _ hk => hk.elim) ?aF ?aO ?aB ?aS ?aL ?_; (case aP => exact k31_mkM _ _ _ (⟨a0.extract (x6_2 : Int).toNat (x7_19 : Int).toNat, t128⟩ : S31)); (case aB => exact (by repeat (first | (with_reducible first | exact HB.out | apply below_alloc | apply pw_below_drewN | apply below_drew1) | exact HB.out))); (case aF => exact (fun _ _ => trivial)); (case aO => exact (by (with_reducible repeat (first | apply Kd.R_alloc | apply Kd.R_drewN | apply Kd.R_drew)); exact HO_5.out)); (case aS => exact (below_size (by repeat (first | (with_reducible first | exact HB.out | apply below_alloc | apply pw_below_drewN | apply below_drew1) | exact HB.out)))); (case aL => have := LMc33.out; omega); intro v131 w35 ho hb hg hat; rw [← Ny130.out] at ho; have n0_ := Aside0.mk (hb); have n1_ := Aside0.mk (ho); clear HB; clear HO_5; have HB := n0_; have HO132 := n1_; clear n0_ n1_; clear ho hb hg hat))
                                    repeat (go_quiet (first | (go_at_call 34; (with_reducible refine (tocsinref07_Quoted.calls kj19 (a0.extract ((ji26) : Int).toNat a0.size) t128 t129 _ A29.out).mono ?_); rintro e w' ⟨rfl, ⟨nd, rfl⟩⟩; (try first | exact ⟨rfl, _, World.drewN_drewN _ _ _⟩ | exact ⟨rfl, _, Eq.trans (World.drewN_drewN _ _ _) (congrArg (World.drewN _) (Nat.add_assoc _ _ _))⟩)) | ((with_reducible refine gate_builtin (b := .append) (xs := #[.tmp 47, .tmp 54]) rfl ?_); (try (refine gate_guard (by rfl) ?_; dsimp only)); at_builtin; refine Kd.R_append k31 (w0 := w) w.heap.size rfl (.tmp 47) (.tmp 54) 22 31 (.agg #[(.string ⟨#[]⟩), (.string ⟨#[]⟩)]) 32 rfl Try.underlying22 info31 rfl (by decide) (by omega) u5 x5_2 (⟨a0.extract (x6_2 : Int).toNat (x7_19 : Int).toNat, t128⟩ : S31) [.string (a0.extract (x6_2 : Int).toNat (x7_19 : Int).toNat), .string t128] (fun _ => True) (fun _ => False) rfl rfl ?aP (fun _ hk => hk.elim) ?aF ?aO ?aB ?aS ?aL ?_; (case aP => exact k31_mkM _ _ _ (⟨a0.extract (x6_2 : Int).toNat (x7_19 : Int).toNat, t128⟩ : S31)); (case aB => exact (by repeat (first | (with_reducible first | exact HB.out | apply below_alloc | apply pw_below_drewN | apply below_drew1) | exact HB.out))); (case aF => exact (fun _ _ => trivial)); (case aO => exact (by (with_reducible repeat (first | apply Kd.R_alloc | apply Kd.R_drewN | apply Kd.R_drew)); exact HO_5.out)); (case aS => exact (below_size (by repeat (first | (with_reducible first | exact HB.out | apply below_alloc | apply pw_below_drewN | apply below_drew1) | exact HB.out)))); (case aL => have := LMc33.out; omega); intro v131 w35 ho hb hg hat; rw [← Ny130.out] at ho; have n0_ := Aside0.mk (hb); have n1_ := Aside0.mk (ho); clear HB; clear HO_5; have HB := n0_; have HO132 := n1_; clear n0_ n1_; clear ho hb hg hat)); go_upto_region 14 with (first | (go_at_call 34; (with_reducible refine (tocsinref07_Quoted.calls kj19 (a0.extract ((ji26) : Int).toNat a0.size) t128 t129 _ A29.out).mono ?_); rintro e w' ⟨rfl, ⟨nd, rfl⟩⟩; (try first | exact ⟨rfl, _, World.drewN_drewN _ _ _⟩ | exact ⟨rfl, _, Eq.trans (World.drewN_drewN _ _ _) (congrArg (World.drewN _) (Nat.add_assoc _ _ _))⟩)) | ((with_reducible refine gate_builtin (b := .append) (xs := #[.tmp 47, .tmp 54]) rfl ?_); (try (refine gate_guard (by rfl) ?_; dsimp only)); at_builtin; refine Kd.R_append k31 (w0 := w) w.heap.size rfl (.tmp 47) (.tmp 54) 22 31 (.agg #[(.string ⟨#[]⟩), (.string ⟨#[]⟩)]) 32 rfl Try.underlying22 info31 rfl (by decide) (by omega) u5 x5_2 (⟨a0.extract (x6_2 : Int).toNat (x7_19 : Int).toNat, t128⟩ : S31) [.string (a0.extract (x6_2 : Int).toNat (x7_19 : Int).toNat), .string t128] (fun _ => True) (fun _ => False) rfl rfl ?aP (fun _ hk => hk.elim) ?aF ?aO ?aB ?aS ?aL ?_; (case aP => exact k31_mkM _ _ _ (⟨a0.extract (x6_2 : Int).toNat (x7_19 : Int).toNat, t128⟩ : S31)); (case aB => exact (by repeat (first | (with_reducible first | exact HB.out | apply below_alloc | apply pw_below_drewN | apply below_drew1) | exact HB.out))); (case aF => exact (fun _ _ => trivial)); (case aO => exact (by (with_reducible repeat (first | apply Kd.R_alloc | apply Kd.R_drewN | apply Kd.R_drew)); exact HO_5.out)); (case aS => exact (below_size (by repeat (first | (with_reducible first | exact HB.out | apply below_alloc | apply pw_below_drewN | apply below_drew1) | exact HB.out)))); (case aL => have := LMc33.out; omega); intro v131 w35 ho hb hg hat; rw [← Ny130.out] at ho; have n0_ := Aside0.mk (hb); have n1_ := Aside0.mk (ho); clear HB; clear HO_5; have HB := n0_; have HO132 := n1_; clear n0_ n1_; clear ho hb hg hat)))
                                    (try simp only [Act.put, List.setIfInBounds_toArray, List.set_cons_zero, List.set_cons_succ])
                                    go_cut [84] (fun v84 wc => ∃ (kq : Nat) (x84_33 : Bool), v84 = .bool x84_33 ∧ Aside0 (tocsinref07_Parse.j4 kq a0 y130 (wrap64 ((ji26) + t129)) x84_33 = some (r1, r2, r3)) ∧ Aside0 (kq ≤ kj19) ∧ Aside0 (Kd.R k31 31 wc w.heap.size (fun _ => True) v131 y130) ∧ Aside0 (Below w.heap.size w wc))
                                    case first =>
                                      have H := HC34.out
                                      clear HC34
                                      by_cases c36 : t129 = 0
                                      · rw [if_pos c36] at H
                                        have c36b0 : (t129 == 0) = true := beq_iff_eq.mpr c36
                                        have c36b1 : (t129 != 0) = false := bne_eq_false_iff_eq.mpr c36
                                        clear c36
                                        (first | rw [c36b0] | (simp only [i64_w, i32_w]; rw [c36b0]) | skip)
                                        have H' := Aside0.mk H
                                        clear H
                                        go_wp2
                                        repeat (go_quiet (fail); try go_wp2)
                                        go_meet
                                        case rel => exact ⟨_, (true), (by first | rfl | (simp; done) | (simp [*]; done)), (by first | exact H' | (rw [hji26]; exact H')), ⟨by have := HJ1.out; have := HK2.out; have := HJ19.out; first | omega | exact Nat.le_refl _⟩, ⟨by (with_reducible repeat (first | apply Kd.R_alloc | apply Kd.R_drewN | apply Kd.R_drew)); exact HO132.out⟩, ⟨by repeat (first | (with_reducible first | exact HB.out | apply below_alloc | apply pw_below_drewN | apply below_drew1) | exact HB.out)⟩⟩
                                      · rw [if_neg c36] at H
                                        have c36b0 : (t129 == 0) = false := beq_eq_false_iff_ne.mpr c36
                                        have c36b1 : (t129 != 0) = true := bne_iff_ne.mpr c36
                                        (first | rw [c36b0] | (simp only [i64_w, i32_w]; rw [c36b0]) | skip)
                                        by_cases c37 : (wrap64 ((ji26) + t129)) ≥ (a0.size : Int)
                                        · rw [if_pos c37] at H
                                          have c37b0 : decide ((a0.size : Int) ≤ (wrap64 ((ji26) + t129))) = true := decide_eq_true c37
                                          clear c37
                                          have H' := Aside0.mk H
                                          clear H
                                          go_wp2
                                          repeat (go_quiet (fail); try go_wp2)
                                          go_meet
                                          case rel => exact ⟨_, (true), (by first | rfl | (simp; done) | (simp [*]; done)), (by first | exact H' | (rw [hji26]; exact H')), ⟨by have := HJ1.out; have := HK2.out; have := HJ19.out; first | omega | exact Nat.le_refl _⟩, ⟨by (with_reducible repeat (first | apply Kd.R_alloc | apply Kd.R_drewN | apply Kd.R_drew)); exact HO132.out⟩, ⟨by repeat (first | (with_reducible first | exact HB.out | apply below_alloc | apply pw_below_drewN | apply below_drew1) | exact HB.out)⟩⟩
                                        · rw [if_neg c37] at H
                                          have c37b0 : decide ((a0.size : Int) ≤ (wrap64 ((ji26) + t129))) = false := decide_eq_false c37
                                          clear c37
                                          obtain ⟨ji38, hji38⟩ : ∃ j_ : Int, (wrap64 ((ji26) + t129)) = j_ := ⟨_, rfl⟩
                                          replace H : (if 0 ≤ (ji38) then (if (ji38) < (a0.size : Int) then (if (bt a0 (ji38)) = 44 then (tocsinref07_Parse.j4 kj19 a0 y130 ji38 (decide ((y130.length : Int) > 4))) else (if (bt a0 (ji38)) = 125 then (tocsinref07_Parse.j4 kj19 a0 y130 ji38 (decide ((y130.length : Int) > 4))) else (tocsinref07_Parse.j4 kj19 a0 y130 ji38 true))) else (none)) else (none)) = some (r1, r2, r3) := by first | (rw [hji38] at H; exact H) | (simp only [hji38] at H ⊢; exact H)
                                          (try rw [hji38] at c37b0)
                                          have hji38w : (IntKind.i64.wrap ((ji26) + t129)) = ji38 := (i64_w _).trans hji38
                                          by_cases c39 : 0 ≤ (ji38)
                                          · rw [if_pos c39] at H
                                            have c39b0 : decide (0 ≤ (ji38)) = true := decide_eq_true c39
                                            clear c39
                                            by_cases c40 : (ji38) < (a0.size : Int)
                                            · rw [if_pos c40] at H
                                              have c40b0 : decide ((ji38) < (a0.size : Int)) = true := decide_eq_true c40
                                              clear c40
                                              by_cases c42 : (bt a0 (ji38)) = 44
                                              · rw [if_pos c42] at H
                                                have c42b0 : ((bt a0 (ji38)) == 44) = true := beq_iff_eq.mpr c42
                                                have c42b1 : ((bt a0 (ji38)) != 44) = false := bne_eq_false_iff_eq.mpr c42
                                                clear c42
                                                have H' := Aside0.mk H
                                                clear H
                                                have p41 : 0 ≤ ((ji38) : Int) := of_decide_eq_true (by first | (with_reducible assumption) | assumption)
                                                have q41 : (ji38) < (a0.size : Int) := of_decide_eq_true (by first | (with_reducible assumption) | assumption)
                                                have hx41 := bt_at a0 (ji38)
                                                replace p41 := eq_true p41
                                                replace q41 := eq_true q41
                                                obtain ⟨Ao43, co43, eo43⟩ := Kd.R_slice HO132.out
                                                subst eo43
                                                go_wp2
                                                repeat (go_quiet (fail); try go_wp2)
                                                go_meet
                                                case rel => exact ⟨_, (decide ((y130.length : Int) > 4)), (by first | rfl | (simp; done) | (simp [*]; done)), (by first | exact H' | (rw [hji38]; exact H') | (rw [hji26]; exact H')), ⟨by have := HJ1.out; have := HK2.out; have := HJ19.out; first | omega | exact Nat.le_refl _⟩, ⟨by (with_reducible repeat (first | apply Kd.R_alloc | apply Kd.R_drewN | apply Kd.R_drew)); exact HO132.out⟩, ⟨by repeat (first | (with_reducible first | exact HB.out | apply below_alloc | apply pw_below_drewN | apply below_drew1) | exact HB.out)⟩⟩
                                              · rw [if_neg c42] at H
                                                have c42b0 : ((bt a0 (ji38)) == 44) = false := beq_eq_false_iff_ne.mpr c42
                                                have c42b1 : ((bt a0 (ji38)) != 44) = true := bne_iff_ne.mpr c42
                                                by_cases c45 : (bt a0 (ji38)) = 125
                                                · rw [if_pos c45] at H
                                                  have c45b0 : ((bt a0 (ji38)) == 125) = true := beq_iff_eq.mpr c45
                                                  have c45b1 : ((bt a0 (ji38)) != 125) = false := bne_eq_false_iff_eq.mpr c45
                                                  clear c45
                                                  have H' := Aside0.mk H
                                                  clear H
                                                  have p41 : 0 ≤ ((ji38) : Int) := of_decide_eq_true (by first | (with_reducible assumption) | assumption)
                                                  have q41 : (ji38) < (a0.size : Int) := of_decide_eq_true (by first | (with_reducible assumption) | assumption)
                                                  have hx41 := bt_at a0 (ji38)
                                                  replace p41 := eq_true p41
                                                  replace q41 := eq_true q41
                                                  have p44 : 0 ≤ ((ji38) : Int) := of_decide_eq_true (by first | (with_reducible assumption) | assumption)
                                                  have q44 : (ji38) < (a0.size : Int) := of_decide_eq_true (by first | (with_reducible assumption) | assumption)
                                                  have hx44 := bt_at a0 (ji38)
                                                  replace p44 := eq_true p44
                                                  replace q44 := eq_true q44
                                                  obtain ⟨Ao46, co46, eo46⟩ := Kd.R_slice HO132.out
                                                  subst eo46
                                                  go_wp2
                                                  repeat (go_quiet (fail); try go_wp2)
                                                  go_meet
                                                  case rel => exact ⟨_, (decide ((y130.length : Int) > 4)), (by first | rfl | (simp; done) | (simp [*]; done)), (by first | exact H' | (rw [hji38]; exact H') | (rw [hji26]; exact H')), ⟨by have := HJ1.out; have := HK2.out; have := HJ19.out; first | omega | exact Nat.le_refl _⟩, ⟨by (with_reducible repeat (first | apply Kd.R_alloc | apply Kd.R_drewN | apply Kd.R_drew)); exact HO132.out⟩, ⟨by repeat (first | (with_reducible first | exact HB.out | apply below_alloc | apply pw_below_drewN | apply below_drew1) | exact HB.out)⟩⟩
                                                · rw [if_neg c45] at H
                                                  have c45b0 : ((bt a0 (ji38)) == 125) = false := beq_eq_false_iff_ne.mpr c45
                                                  have c45b1 : ((bt a0 (ji38)) != 125) = true := bne_iff_ne.mpr c45
                                                  have H' := Aside0.mk H
                                                  clear H
                                                  have p41 : 0 ≤ ((ji38) : Int) := of_decide_eq_true (by first | (with_reducible assumption) | assumption)
                                                  have q41 : (ji38) < (a0.size : Int) := of_decide_eq_true (by first | (with_reducible assumption) | assumption)
                                                  have hx41 := bt_at a0 (ji38)
                                                  replace p41 := eq_true p41
                                                  replace q41 := eq_true q41
                                                  have p44 : 0 ≤ ((ji38) : Int) := of_decide_eq_true (by first | (with_reducible assumption) | assumption)
                                                  have q44 : (ji38) < (a0.size : Int) := of_decide_eq_true (by first | (with_reducible assumption) | assumption)
                                                  have hx44 := bt_at a0 (ji38)
                                                  replace p44 := eq_true p44
                                                  replace q44 := eq_true q44
                                                  go_wp2
                                                  repeat (go_quiet (fail); try go_wp2)
                                                  go_meet
                                                  case rel => exact ⟨_, (true), (by first | rfl | (simp; done) | (simp [*]; done)), (by first | exact H' | (rw [hji38]; exact H') | (rw [hji26]; exact H')), ⟨by have := HJ1.out; have := HK2.out; have := HJ19.out; first | omega | exact Nat.le_refl _⟩, ⟨by (with_reducible repeat (first | apply Kd.R_alloc | apply Kd.R_drewN | apply Kd.R_drew)); exact HO132.out⟩, ⟨by repeat (first | (with_reducible first | exact HB.out | apply below_alloc | apply pw_below_drewN | apply below_drew1) | exact HB.out)⟩⟩
                                            · rw [if_neg c40] at H
                                              exact absurd H (by simp)
                                          · rw [if_neg c39] at H
                                            exact absurd H (by simp)
                                    case rest =>
                                      clear HC34
                                      try clear c1
                                      try clear c2
                                      try clear p2
                                      try clear q2
                                      try clear hx2
                                      try clear c3
                                      try clear c3b0
                                      try clear c3b1
                                      try clear c4
                                      try clear c4b0
                                      try clear c4b1
                                      try clear p4
                                      try clear q4
                                      try clear hx4
                                      try clear p5
                                      try clear q5
                                      try clear hx5
                                      try clear qi5
                                      try clear c6
                                      try clear p6
                                      try clear c7
                                      try clear c7b0
                                      try clear c8
                                      try clear c8b0
                                      try clear p9
                                      try clear q9
                                      try clear hx9
                                      try clear c10
                                      try clear c10b0
                                      try clear c10b1
                                      try clear c12
                                      try clear c14
                                      try clear c14b0
                                      try clear c14b1
                                      try clear c15
                                      try clear c15b0
                                      try clear c15b1
                                      try clear c21
                                      try clear c21b0
                                      try clear c22
                                      try clear c22b0
                                      try clear p23
                                      try clear q23
                                      try clear hx23
                                      try clear c24
                                      try clear c24b0
                                      try clear c24b1
                                      try clear c25
                                      try clear c25b0
                                      try clear c25b1
                                      try clear c27
                                      try clear c27b0
                                      try clear c27b1
                                      try clear c28
                                      try clear c28b0
                                      try clear c28b1
                                      try clear c30
                                      try clear c30b0
                                      try clear c30b1
                                      try clear c31
                                      try clear c31b0
                                      try clear c31b1
                                      try clear c32
                                      try clear c32b0
                                      try clear c32b1
                                      try clear c33
                                      try clear c36
                                      try clear c36b0
                                      try clear c36b1
                                      try clear c37
                                      try clear c37b0
                                      try clear c39
                                      try clear c39b0
                                      try clear c40
                                      try clear c40b0
                                      try clear p41
                                      try clear q41
                                      try clear hx41
                                      try clear c42
                                      try clear c42b0
                                      try clear c42b1
                                      try clear p44
                                      try clear q44
                                      try clear hx44
                                      try clear c45
                                      try clear c45b0
                                      try clear c45b1
                                      try clear p2
                                      try clear p23
                                      try clear p41
                                      try clear p44
                                      try clear p5
                                      try clear p6
                                      try clear p9
                                      try clear q2
                                      try clear q23
                                      try clear q41
                                      try clear q44
                                      try clear q5
                                      try clear q9
                                      obtain ⟨kq, x84_33, rfl, HA, HJ33, HO_5, HB⟩ := hcut
                                      cases kq with
                                      | zero => exact absurd HA.out (by simp [tocsinref07_Parse.j4])
                                      | succ kj33 =>
                                        have H := HA.out
                                        clear HA
                                        simp only [tocsinref07_Parse.j4] at H
                                        by_cases c47 : x84_33 = true
                                        · subst c47
                                          have H1 : (some (([] : List (S31)), (⟨#[]⟩ : ByteArray), 70)) = some (r1, r2, r3) := by rw [if_pos rfl] at H; exact H
                                          clear H
                                          have H := H1
                                          clear H1
                                          simp only [Option.some.injEq, Prod.mk.injEq] at H
                                          obtain ⟨rfl, rfl, rfl⟩ := H
                                          go_wp2
                                          repeat (go_quiet (fail); try go_wp2)
                                          go_ret3
                                          exact ⟨_, by first | rfl | (simp [errW_none, errW_some] <;> rfl) | (simp only [← hji26]; first | rfl | (simp [errW_none, errW_some] <;> rfl)) | (simp [*, errW_none, errW_some] <;> rfl), by first | exact Kd.R_nil _ _ _ _ _ | exact Kd.N_nil _ _ _ _ _ | exact Kd.V_nil _ _ _ _ _ | exact Kd.Q_nil _ _ _ _ _ | exact Kd.S_nil _ _ _ _ _, by repeat (first | (with_reducible first | exact HB.out | apply below_alloc | apply pw_below_drewN | apply below_drew1) | exact HB.out)⟩
                                        · replace c47 := Bool.eq_false_iff.mpr c47
                                          subst c47
                                          have H1 : (if 0 ≤ (wrap64 ((ji26) + t129)) then (if (wrap64 ((ji26) + t129)) < (a0.size : Int) then (if (bt a0 (wrap64 ((ji26) + t129))) = 44 then (if (wrap64 ((wrap64 ((ji26) + t129)) + 1)) = (a0.size : Int) then (some (([] : List (S31)), (⟨#[]⟩ : ByteArray), 70)) else (if 0 ≤ (wrap64 ((wrap64 ((ji26) + t129)) + 1)) then (if (wrap64 ((wrap64 ((ji26) + t129)) + 1)) < (a0.size : Int) then (if (bt a0 (wrap64 ((wrap64 ((ji26) + t129)) + 1))) = 125 then (some (([] : List (S31)), (⟨#[]⟩ : ByteArray), 70)) else (tocsinref07_Parse.l0 kj33 a0 y130 (wrap64 ((wrap64 ((ji26) + t129)) + 1)))) else (none)) else (none))) else (tocsinref07_Parse.l0 kj33 a0 y130 (wrap64 ((ji26) + t129)))) else (none)) else (none)) = some (r1, r2, r3) := by rw [if_neg (show ¬ (false = true) by decide)] at H; exact H
                                          clear H
                                          have H := H1
                                          clear H1
                                          obtain ⟨ji48, hji48⟩ : ∃ j_ : Int, (wrap64 ((ji26) + t129)) = j_ := ⟨_, rfl⟩
                                          replace H : (if 0 ≤ (ji48) then (if (ji48) < (a0.size : Int) then (if (bt a0 (ji48)) = 44 then (if (wrap64 ((ji48) + 1)) = (a0.size : Int) then (some (([] : List (S31)), (⟨#[]⟩ : ByteArray), 70)) else (if 0 ≤ (wrap64 ((ji48) + 1)) then (if (wrap64 ((ji48) + 1)) < (a0.size : Int) then (if (bt a0 (wrap64 ((ji48) + 1))) = 125 then (some (([] : List (S31)), (⟨#[]⟩ : ByteArray), 70)) else (tocsinref07_Parse.l0 kj33 a0 y130 (wrap64 ((ji48) + 1)))) else (none)) else (none))) else (tocsinref07_Parse.l0 kj33 a0 y130 (ji48))) else (none)) else (none)) = some (r1, r2, r3) := by first | (rw [hji48] at H; exact H) | (simp only [hji48] at H ⊢; exact H)
                                          have hji48w : (IntKind.i64.wrap ((ji26) + t129)) = ji48 := (i64_w _).trans hji48
                                          by_cases c49 : 0 ≤ (ji48)
                                          · rw [if_pos c49] at H
                                            have c49b0 : decide (0 ≤ (ji48)) = true := decide_eq_true c49
                                            clear c49
                                            by_cases c50 : (ji48) < (a0.size : Int)
                                            · rw [if_pos c50] at H
                                              have c50b0 : decide ((ji48) < (a0.size : Int)) = true := decide_eq_true c50
                                              clear c50
                                              by_cases c52 : (bt a0 (ji48)) = 44
                                              · rw [if_pos c52] at H
                                                have c52b0 : ((bt a0 (ji48)) == 44) = true := beq_iff_eq.mpr c52
                                                have c52b1 : ((bt a0 (ji48)) != 44) = false := bne_eq_false_iff_eq.mpr c52
                                                clear c52
                                                by_cases c53 : (wrap64 ((ji48) + 1)) = (a0.size : Int)
                                                · rw [if_pos c53] at H
                                                  have c53b0 : ((wrap64 ((ji48) + 1)) == (a0.size : Int)) = true := beq_iff_eq.mpr c53
                                                  have c53b1 : ((wrap64 ((ji48) + 1)) != (a0.size : Int)) = false := bne_eq_false_iff_eq.mpr c53
                                                  clear c53
                                                  simp only [Option.some.injEq, Prod.mk.injEq] at H
                                                  obtain ⟨rfl, rfl, rfl⟩ := H
                                                  have p51 : 0 ≤ ((ji48) : Int) := of_decide_eq_true (by first | (with_reducible assumption) | assumption)
                                                  have q51 : (ji48) < (a0.size : Int) := of_decide_eq_true (by first | (with_reducible assumption) | assumption)
                                                  have hx51 := bt_at a0 (ji48)
                                                  replace p51 := eq_true p51
                                                  replace q51 := eq_true q51
                                                  go_wp2
                                                  repeat (go_quiet (fail); try go_wp2)
                                                  go_ret3
                                                  exact ⟨_, by first | rfl | (simp [errW_none, errW_some] <;> rfl) | (simp only [← hji26, ← hji48]; first | rfl | (simp [errW_none, errW_some] <;> rfl)) | (simp [*, errW_none, errW_some] <;> rfl), by first | exact Kd.R_nil _ _ _ _ _ | exact Kd.N_nil _ _ _ _ _ | exact Kd.V_nil _ _ _ _ _ | exact Kd.Q_nil _ _ _ _ _ | exact Kd.S_nil _ _ _ _ _, by repeat (first | (with_reducible first | exact HB.out | apply below_alloc | apply pw_below_drewN | apply below_drew1) | exact HB.out)⟩
                                                · rw [if_neg c53] at H
                                                  have c53b0 : ((wrap64 ((ji48) + 1)) == (a0.size : Int)) = false := beq_eq_false_iff_ne.mpr c53
                                                  have c53b1 : ((wrap64 ((ji48) + 1)) != (a0.size : Int)) = true := bne_iff_ne.mpr c53
                                                  obtain ⟨ji54, hji54⟩ : ∃ j_ : Int, (wrap64 ((ji48) + 1)) = j_ := ⟨_, rfl⟩
                                                  replace H : (if 0 ≤ (ji54) then (if (ji54) < (a0.size : Int) then (if (bt a0 (ji54)) = 125 then (some (([] : List (S31)), (⟨#[]⟩ : ByteArray), 70)) else (tocsinref07_Parse.l0 kj33 a0 y130 ji54)) else (none)) else (none)) = some (r1, r2, r3) := by first | (rw [hji54] at H; exact H) | (simp only [hji54] at H ⊢; exact H)
                                                  (try rw [hji54] at c53b0)
                                                  (try rw [hji54] at c53b1)
                                                  have hji54w : (IntKind.i64.wrap ((ji48) + 1)) = ji54 := (i64_w _).trans hji54
                                                  by_cases c55 : 0 ≤ (ji54)
                                                  · rw [if_pos c55] at H
                                                    have c55b0 : decide (0 ≤ (ji54)) = true := decide_eq_true c55
                                                    clear c55
                                                    by_cases c56 : (ji54) < (a0.size : Int)
                                                    · rw [if_pos c56] at H
                                                      have c56b0 : decide ((ji54) < (a0.size : Int)) = true := decide_eq_true c56
                                                      clear c56
                                                      by_cases c58 : (bt a0 (ji54)) = 125
                                                      · rw [if_pos c58] at H
                                                        have c58b0 : ((bt a0 (ji54)) == 125) = true := beq_iff_eq.mpr c58
                                                        have c58b1 : ((bt a0 (ji54)) != 125) = false := bne_eq_false_iff_eq.mpr c58
                                                        clear c58
                                                        simp only [Option.some.injEq, Prod.mk.injEq] at H
                                                        obtain ⟨rfl, rfl, rfl⟩ := H
                                                        have p51 : 0 ≤ ((ji48) : Int) := of_decide_eq_true (by first | (with_reducible assumption) | assumption)
                                                        have q51 : (ji48) < (a0.size : Int) := of_decide_eq_true (by first | (with_reducible assumption) | assumption)
                                                        have hx51 := bt_at a0 (ji48)
                                                        replace p51 := eq_true p51
                                                        replace q51 := eq_true q51
                                                        have p57 : 0 ≤ ((ji54) : Int) := of_decide_eq_true (by first | (with_reducible assumption) | assumption)
                                                        have q57 : (ji54) < (a0.size : Int) := of_decide_eq_true (by first | (with_reducible assumption) | assumption)
                                                        have hx57 := bt_at a0 (ji54)
                                                        replace p57 := eq_true p57
                                                        replace q57 := eq_true q57
                                                        go_wp2
                                                        repeat (go_quiet (fail); try go_wp2)
                                                        go_ret3
                                                        exact ⟨_, by first | rfl | (simp [errW_none, errW_some] <;> rfl) | (simp only [← hji26, ← hji48, ← hji54]; first | rfl | (simp [errW_none, errW_some] <;> rfl)) | (simp [*, errW_none, errW_some] <;> rfl), by first | exact Kd.R_nil _ _ _ _ _ | exact Kd.N_nil _ _ _ _ _ | exact Kd.V_nil _ _ _ _ _ | exact Kd.Q_nil _ _ _ _ _ | exact Kd.S_nil _ _ _ _ _, by repeat (first | (with_reducible first | exact HB.out | apply below_alloc | apply pw_below_drewN | apply below_drew1) | exact HB.out)⟩
                                                      · rw [if_neg c58] at H
                                                        have c58b0 : ((bt a0 (ji54)) == 125) = false := beq_eq_false_iff_ne.mpr c58
                                                        have c58b1 : ((bt a0 (ji54)) != 125) = true := bne_iff_ne.mpr c58
                                                        have H' := Aside0.mk H
                                                        clear H
                                                        have p51 : 0 ≤ ((ji48) : Int) := of_decide_eq_true (by first | (with_reducible assumption) | assumption)
                                                        have q51 : (ji48) < (a0.size : Int) := of_decide_eq_true (by first | (with_reducible assumption) | assumption)
                                                        have hx51 := bt_at a0 (ji48)
                                                        replace p51 := eq_true p51
                                                        replace q51 := eq_true q51
                                                        have p57 : 0 ≤ ((ji54) : Int) := of_decide_eq_true (by first | (with_reducible assumption) | assumption)
                                                        have q57 : (ji54) < (a0.size : Int) := of_decide_eq_true (by first | (with_reducible assumption) | assumption)
                                                        have hx57 := bt_at a0 (ji54)
                                                        replace p57 := eq_true p57
                                                        replace q57 := eq_true q57
                                                        go_wp2
                                                        repeat (go_quiet (fail); try go_wp2)
                                                        go_roundg kj33
                                                        case measure => have := HJ1.out; have := HK2.out; have := HJ19.out; have := HJ33.out; omega
                                                        case rel => exact ⟨(y130), (ji54), (by first | rfl | (simp; done) | (simp only [← hji54] <;> (first | rfl | simp)) | (simp [*]; done)), (by first | exact H' | (rw [hji54]; exact H') | (rw [hji48]; exact H') | (rw [hji26]; exact H')), ⟨by have := HJ1.out; have := HK2.out; have := HJ19.out; have := HJ33.out; omega⟩, ⟨by (with_reducible repeat (first | apply Kd.R_alloc | apply Kd.R_drewN | apply Kd.R_drew)); exact HO_5.out⟩, ⟨by repeat (first | (with_reducible first | exact HB.out | apply below_alloc | apply pw_below_drewN | apply below_drew1) | exact HB.out)⟩⟩
                                                    · rw [if_neg c56] at H
                                                      exact absurd H (by simp)
                                                  · rw [if_neg c55] at H
                                                    exact absurd H (by simp)
                                              · rw [if_neg c52] at H
                                                have c52b0 : ((bt a0 (ji48)) == 44) = false := beq_eq_false_iff_ne.mpr c52
                                                have c52b1 : ((bt a0 (ji48)) != 44) = true := bne_iff_ne.mpr c52
                                                have H' := Aside0.mk H
                                                clear H
                                                have p51 : 0 ≤ ((ji48) : Int) := of_decide_eq_true (by first | (with_reducible assumption) | assumption)
                                                have q51 : (ji48) < (a0.size : Int) := of_decide_eq_true (by first | (with_reducible assumption) | assumption)
                                                have hx51 := bt_at a0 (ji48)
                                                replace p51 := eq_true p51
                                                replace q51 := eq_true q51
                                                go_wp2
                                                repeat (go_quiet (fail); try go_wp2)
                                                go_roundg kj33
                                                case measure => have := HJ1.out; have := HK2.out; have := HJ19.out; have := HJ33.out; omega
                                                case rel => exact ⟨(y130), ((ji48)), (by first | rfl | (simp; done) | (simp only [← hji48] <;> (first | rfl | simp)) | (simp [*]; done)), (by first | exact H' | (rw [hji48]; exact H') | (rw [hji26]; exact H')), ⟨by have := HJ1.out; have := HK2.out; have := HJ19.out; have := HJ33.out; omega⟩, ⟨by (with_reducible repeat (first | apply Kd.R_alloc | apply Kd.R_drewN | apply Kd.R_drew)); exact HO_5.out⟩, ⟨by repeat (first | (with_reducible first | exact HB.out | apply below_alloc | apply pw_below_drewN | apply below_drew1) | exact HB.out)⟩⟩
                                            · rw [if_neg c50] at H
                                              exact absurd H (by simp)
                                          · rw [if_neg c49] at H
                                            exact absurd H (by simp)
                                  · rw [if_neg c33] at H
                                    exact absurd H (by simp)
                                · rw [if_neg c32] at H
                                  exact absurd H (by simp)
                              · rw [if_neg c31] at H
                                exact absurd H (by simp)
                            · rw [if_neg c30] at H
                              exact absurd H (by simp)
                          · rw [if_neg c28] at H
                            exact absurd H (by simp)
                        · rw [if_neg c27] at H
                          exact absurd H (by simp)
              · rw [if_neg c8] at H
                exact absurd H (by simp)
            · rw [if_neg c7] at H
              exact absurd H (by simp)

end Go.Proofs.Ytiicfejaoilfcaa.Q

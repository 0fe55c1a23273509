/- Functions of the program as plain Lean functions, each with the proof that its call comes to just these answers: written by a program of this session (wip/tools/printg.py over the kit's print) for this claim. -/
import Derived.Test.YtlhlaadnifkdhaaQ0
import Derived.Test.YtlhlaadnifkdhaaQ29
namespace Go.Proofs.Ytlhlaadnifkdhaa.Q
open Go.RowKit Go.Proofs.YtlhlaadnifkdhaaW.PrintWords Go.Proofs.YtlhlaadnifkdhaaW.PrintLast Go.Proofs.YtlhlaadnifkdhaaW.PrintMore
attribute [local go_sem] Opn.str_leq Opn.str_gtr Opn.str_geq max2_int min2_int max_two min_two max_three min_three max_four min_four   -- for this text's walks alone
set_option linter.unusedVariables false
set_option linter.unusedSimpArgs false

/-! ### tocsinref08_Does: function 43 -/
def tocsinref08_Does.l0 : Nat → List (S40) → List (S31) → Int → Option (Bool)
  | 0, _, _, _ => none
  | k + 1, x0, x1, x5 => if x5 < (x0.length : Int) then (if 0 ≤ x5 then ((tocsinref07_Value.f k x1 ((rd_T40 x0 x5).f0)).bind fun t304 => (if ((rd_T40 x0 x5).f1) = 0 then (if (t304.toList = ((rd_T40 x0 x5).f2).toList) then (tocsinref08_Does.l0 k x0 x1 (wrap64 (x5 + 1))) else (some false)) else (if ((rd_T40 x0 x5).f1) = 1 then (if (¬ t304.toList = ((rd_T40 x0 x5).f2).toList) then (tocsinref08_Does.l0 k x0 x1 (wrap64 (x5 + 1))) else (some false)) else (if ((rd_T40 x0 x5).f1) = 2 then (if (t304.size : Int) ≥ (((rd_T40 x0 x5).f2).size : Int) then (if 0 ≤ (((rd_T40 x0 x5).f2).size : Int) then (if (((rd_T40 x0 x5).f2).size : Int) ≤ (t304.size : Int) then (if ((t304.extract 0 ((((rd_T40 x0 x5).f2).size : Int) : Int).toNat).toList = ((rd_T40 x0 x5).f2).toList) then (tocsinref08_Does.l0 k x0 x1 (wrap64 (x5 + 1))) else (some false)) else (none)) else (none)) else (some false)) else (some false))))) else (none)) else (some true)
def tocsinref08_Does.f (k : Nat) (l0 : List (S40)) (l1 : List (S31)) : Option (Bool) := tocsinref08_Does.l0 k l0 l1 0
theorem tocsinref08_Does.mono_l : ∀ k, (∀ y0 y1 y2, LeO (tocsinref08_Does.l0 k y0 y1 y2) (tocsinref08_Does.l0 (k + 1) y0 y1 y2))
  | 0 => fun _ _ _ r h => by simp [tocsinref08_Does.l0] at h
  | k + 1 => by
    have ih0 := tocsinref08_Does.mono_l k
    · intro y0 y1 y2
      unfold tocsinref08_Does.l0
      repeat' first
      | (with_reducible exact ih0 _ _ _)
      | (with_reducible exact tocsinref07_Value.mono _ _ _)
      | (with_reducible exact LeO.refl _)
      | (with_reducible exact LeO.none _)
      | (with_reducible refine LeO.ite ?_ ?_)
      | (with_reducible refine LeO.bind ?_ (fun _ => ?_))
      | exact ih0 _ _ _
      | exact tocsinref07_Value.mono _ _ _
      | exact LeO.none _
      | refine LeO.ite ?_ ?_
      | refine LeO.bind ?_ (fun _ => ?_)
theorem tocsinref08_Does.mono : ∀ a0 a1 k, LeO (tocsinref08_Does.f k a0 a1) (tocsinref08_Does.f (k + 1) a0 a1) := by
  intro a0 a1 k
  have ih0 := tocsinref08_Does.mono_l k
  unfold tocsinref08_Does.f
  repeat' first
      | (with_reducible exact ih0 _ _ _)
      | (with_reducible exact tocsinref07_Value.mono _ _ _)
      | (with_reducible exact LeO.refl _)
      | (with_reducible exact LeO.none _)
      | (with_reducible refine LeO.ite ?_ ?_)
      | (with_reducible refine LeO.bind ?_ (fun _ => ?_))
      | exact ih0 _ _ _
      | exact tocsinref07_Value.mono _ _ _
      | exact LeO.none _
      | refine LeO.ite ?_ ?_
      | refine LeO.bind ?_ (fun _ => ?_)
set_option maxHeartbeats 8000000 in
set_option maxRecDepth 100000 in
theorem tocsinref08_Does.calls (k : Nat) (A0 : Option Addr) (c0 : Nat) (l0 : List (S40)) (A1 : Option Addr) (c1 : Nat) (l1 : List (S31)) (r : Bool) (w : World) (hr0 : Kd.C k40 w A0 l0.length l0) (hc0 : l0.length ≤ c0) (hr1 : Kd.C k31 w A1 l1.length l1) (hc1 : l1.length ≤ c1) (h : tocsinref08_Does.f k l0 l1 = some r) :
    Calls Try.prog 43 #[.slice A0 l0.length c0, .slice A1 l1.length c1] w fun e w' => e = .returned (.bool r) ∧ Drawn0 w w' := by
  have HR0 := Aside0.mk hr0
  have HC0 := Aside0.mk hc0
  clear hr0 hc0
  have HR1 := Aside0.mk hr1
  have HC1 := Aside0.mk hc1
  clear hr1 hc1
  have H : (tocsinref08_Does.l0 k l0 l1 0) = some r := h
  clear h
  have H' := Aside0.mk H
  clear H
  go_enter Try.func43, Try.ntmps43
  go_wp2
  go_loopg [5] k (fun kq v5 w' => ∃ (x5_1 : Int), v5 = .int .i64 x5_1 ∧ Aside0 (tocsinref08_Does.l0 kq l0 l1 x5_1 = some r) ∧ Aside0 (kq ≤ k) ∧ Drawn0 w w')
  case atStart => exact ⟨(0), (by first | rfl | (simp; done) | (simp [*]; done)), H', ⟨Nat.le_refl _⟩, by repeat (first | exact Drawn0.refl _ | apply Drawn0.step)⟩
  case round =>
    clear H'
    try clear c1
    try clear p2
    obtain ⟨x5_1, rfl, HA, HK1, ⟨m1, rfl⟩⟩ := hrel
    cases gk with
    | zero => exact absurd HA.out (by simp [tocsinref08_Does.l0])
    | succ k1 =>
      have H := HA.out
      clear HA
      simp only [tocsinref08_Does.l0] at H
      by_cases c3 : x5_1 < (l0.length : Int)
      · rw [if_pos c3] at H
        have c3b0 : decide (x5_1 < (l0.length : Int)) = true := decide_eq_true c3
        clear c3
        by_cases c4 : 0 ≤ x5_1
        · rw [if_pos c4] at H
          have c4b0 : decide (0 ≤ x5_1) = true := decide_eq_true c4
          clear c4
          replace H := Option.bind_eq_some_iff.mp H
          obtain ⟨t304, A50, H⟩ := H
          replace H : (if ((rd_T40 l0 x5_1).f1) = 0 then (if (t304.toList = ((rd_T40 l0 x5_1).f2).toList) then (tocsinref08_Does.l0 k1 l0 l1 (wrap64 (x5_1 + 1))) else (some false)) else (if ((rd_T40 l0 x5_1).f1) = 1 then (if (¬ t304.toList = ((rd_T40 l0 x5_1).f2).toList) then (tocsinref08_Does.l0 k1 l0 l1 (wrap64 (x5_1 + 1))) else (some false)) else (if ((rd_T40 l0 x5_1).f1) = 2 then (if (t304.size : Int) ≥ (((rd_T40 l0 x5_1).f2).size : Int) then (if 0 ≤ (((rd_T40 l0 x5_1).f2).size : Int) then (if (((rd_T40 l0 x5_1).f2).size : Int) ≤ (t304.size : Int) then (if ((t304.extract 0 ((((rd_T40 l0 x5_1).f2).size : Int) : Int).toNat).toList = ((rd_T40 l0 x5_1).f2).toList) then (tocsinref08_Does.l0 k1 l0 l1 (wrap64 (x5_1 + 1))) else (some false)) else (none)) else (none)) else (some false)) else (some false)))) = some r := H
          have A5 := Aside0.mk A50
          clear A50
          by_cases c6 : ((rd_T40 l0 x5_1).f1) = 0
          · rw [if_pos c6] at H
            have c6b0 : (((rd_T40 l0 x5_1).f1) == 0) = true := beq_iff_eq.mpr c6
            have c6b1 : (((rd_T40 l0 x5_1).f1) != 0) = false := bne_eq_false_iff_eq.mpr c6
            clear c6
            by_cases c7 : (t304.toList = ((rd_T40 l0 x5_1).f2).toList)
            · rw [if_pos c7] at H
              have c7b0 : (t304.toList == ((rd_T40 l0 x5_1).f2).toList) = true := beq_iff_eq.mpr c7
              have c7b1 : (t304.toList != ((rd_T40 l0 x5_1).f2).toList) = false := bne_eq_false_iff_eq.mpr c7
              clear c7
              have H' := Aside0.mk H
              clear H
              have p303 : 0 ≤ (x5_1 : Int) := of_decide_eq_true (by first | (with_reducible assumption) | assumption)
              have q303 : x5_1 < (l0.length : Int) := of_decide_eq_true (by first | (with_reducible assumption) | assumption)
              obtain ⟨ad303, e303, hx303_0, hx303_1, hx303_2⟩ := at_T40 HR0.out x5_1 p303 q303
              cases e303
              replace p303 := eq_true p303
              replace q303 := eq_true q303
              go_wp2_with (first | ((with_reducible refine gate_callee (f := 59) rfl ?_); refine goesL_ (some 21) rfl rfl Try.func59 (by kernel_rfl) rfl #[.slice A1 l1.length c1, .string ((rd_T40 l0 x5_1).f0)] rfl (by (try simp only [List.map_toArray, List.map_cons, List.map_nil]); first | done | rfl | (simp only [List.length_drop, List.length_take]; rfl)) ?_; (with_reducible refine (tocsinref07_Value.calls k1 _ _ l1 ((rd_T40 l0 x5_1).f0) t304 _ ?side1 ?side2 A5.out).mono ?_); (case side1 => repeat (first | exact HR1.out | (with_reducible refine Kd.C_alloc ?_ _) | (with_reducible refine Kd.C_drewN ?_ _) | (with_reducible refine Kd.C_drew ?_))); (case side2 => exact HC1.out); rintro e w' ⟨rfl, ⟨nd, rfl⟩⟩; refine ⟨_, rfl, ?_⟩; have p305 : 0 ≤ (x5_1 : Int) := of_decide_eq_true (by first | (with_reducible assumption) | assumption); have q305 : x5_1 < (l0.length : Int) := of_decide_eq_true (by first | (with_reducible assumption) | assumption); obtain ⟨ad305, e305, hx305_0, hx305_1, hx305_2⟩ := at_T40 HR0.out x5_1 p305 q305; obtain rfl : ad303 = ad305 := (by injection e305); replace p305 := eq_true p305; replace q305 := eq_true q305; have p306 : 0 ≤ (x5_1 : Int) := of_decide_eq_true (by first | (with_reducible assumption) | assumption); have q306 : x5_1 < (l0.length : Int) := of_decide_eq_true (by first | (with_reducible assumption) | assumption); obtain ⟨ad306, e306, hx306_0, hx306_1, hx306_2⟩ := at_T40 HR0.out x5_1 p306 q306; obtain rfl : ad303 = ad306 := (by injection e306); replace p306 := eq_true p306; replace q306 := eq_true q306))
              go_roundg k1
              case measure => have := HK1.out; omega
              case rel => exact ⟨(wrap64 (x5_1 + 1)), (by first | rfl | (simp; done) | (simp [*]; done)), H', ⟨by have := HK1.out; omega⟩, by repeat (first | exact Drawn0.refl _ | apply Drawn0.step)⟩
            · rw [if_neg c7] at H
              have c7b0 : (t304.toList == ((rd_T40 l0 x5_1).f2).toList) = false := beq_eq_false_iff_ne.mpr c7
              have c7b1 : (t304.toList != ((rd_T40 l0 x5_1).f2).toList) = true := bne_iff_ne.mpr c7
              obtain rfl := Option.some.inj H
              have p303 : 0 ≤ (x5_1 : Int) := of_decide_eq_true (by first | (with_reducible assumption) | assumption)
              have q303 : x5_1 < (l0.length : Int) := of_decide_eq_true (by first | (with_reducible assumption) | assumption)
              obtain ⟨ad303, e303, hx303_0, hx303_1, hx303_2⟩ := at_T40 HR0.out x5_1 p303 q303
              cases e303
              replace p303 := eq_true p303
              replace q303 := eq_true q303
              go_wp2_with (first | ((with_reducible refine gate_callee (f := 59) rfl ?_); refine goesL_ (some 21) rfl rfl Try.func59 (by kernel_rfl) rfl #[.slice A1 l1.length c1, .string ((rd_T40 l0 x5_1).f0)] rfl (by (try simp only [List.map_toArray, List.map_cons, List.map_nil]); first | done | rfl | (simp only [List.length_drop, List.length_take]; rfl)) ?_; (with_reducible refine (tocsinref07_Value.calls k1 _ _ l1 ((rd_T40 l0 x5_1).f0) t304 _ ?side1 ?side2 A5.out).mono ?_); (case side1 => repeat (first | exact HR1.out | (with_reducible refine Kd.C_alloc ?_ _) | (with_reducible refine Kd.C_drewN ?_ _) | (with_reducible refine Kd.C_drew ?_))); (case side2 => exact HC1.out); rintro e w' ⟨rfl, ⟨nd, rfl⟩⟩; refine ⟨_, rfl, ?_⟩; have p305 : 0 ≤ (x5_1 : Int) := of_decide_eq_true (by first | (with_reducible assumption) | assumption); have q305 : x5_1 < (l0.length : Int) := of_decide_eq_true (by first | (with_reducible assumption) | assumption); obtain ⟨ad305, e305, hx305_0, hx305_1, hx305_2⟩ := at_T40 HR0.out x5_1 p305 q305; obtain rfl : ad303 = ad305 := (by injection e305); replace p305 := eq_true p305; replace q305 := eq_true q305; have p306 : 0 ≤ (x5_1 : Int) := of_decide_eq_true (by first | (with_reducible assumption) | assumption); have q306 : x5_1 < (l0.length : Int) := of_decide_eq_true (by first | (with_reducible assumption) | assumption); obtain ⟨ad306, e306, hx306_0, hx306_1, hx306_2⟩ := at_T40 HR0.out x5_1 p306 q306; obtain rfl : ad303 = ad306 := (by injection e306); replace p306 := eq_true p306; replace q306 := eq_true q306))
              go_ret
              exact ⟨by first | rfl | (simp; done) | (simp [*]; done), by repeat (first | exact Drawn0.refl _ | apply Drawn0.step)⟩
          · rw [if_neg c6] at H
            have c6b0 : (((rd_T40 l0 x5_1).f1) == 0) = false := beq_eq_false_iff_ne.mpr c6
            have c6b1 : (((rd_T40 l0 x5_1).f1) != 0) = true := bne_iff_ne.mpr c6
            by_cases c8 : ((rd_T40 l0 x5_1).f1) = 1
            · rw [if_pos c8] at H
              have c8b0 : (((rd_T40 l0 x5_1).f1) == 1) = true := beq_iff_eq.mpr c8
              have c8b1 : (((rd_T40 l0 x5_1).f1) != 1) = false := bne_eq_false_iff_eq.mpr c8
              clear c8
              by_cases c9 : (¬ t304.toList = ((rd_T40 l0 x5_1).f2).toList)
              · rw [if_pos c9] at H
                have c9b0 : (t304.toList == ((rd_T40 l0 x5_1).f2).toList) = false := beq_eq_false_iff_ne.mpr c9
                have c9b1 : (t304.toList != ((rd_T40 l0 x5_1).f2).toList) = true := bne_iff_ne.mpr c9
                clear c9
                have H' := Aside0.mk H
                clear H
                have p303 : 0 ≤ (x5_1 : Int) := of_decide_eq_true (by first | (with_reducible assumption) | assumption)
                have q303 : x5_1 < (l0.length : Int) := of_decide_eq_true (by first | (with_reducible assumption) | assumption)
                obtain ⟨ad303, e303, hx303_0, hx303_1, hx303_2⟩ := at_T40 HR0.out x5_1 p303 q303
                cases e303
                replace p303 := eq_true p303
                replace q303 := eq_true q303
                go_wp2_with (first | ((with_reducible refine gate_callee (f := 59) rfl ?_); refine goesL_ (some 21) rfl rfl Try.func59 (by kernel_rfl) rfl #[.slice A1 l1.length c1, .string ((rd_T40 l0 x5_1).f0)] rfl (by (try simp only [List.map_toArray, List.map_cons, List.map_nil]); first | done | rfl | (simp only [List.length_drop, List.length_take]; rfl)) ?_; (with_reducible refine (tocsinref07_Value.calls k1 _ _ l1 ((rd_T40 l0 x5_1).f0) t304 _ ?side1 ?side2 A5.out).mono ?_); (case side1 => repeat (first | exact HR1.out | (with_reducible refine Kd.C_alloc ?_ _) | (with_reducible refine Kd.C_drewN ?_ _) | (with_reducible refine Kd.C_drew ?_))); (case side2 => exact HC1.out); rintro e w' ⟨rfl, ⟨nd, rfl⟩⟩; refine ⟨_, rfl, ?_⟩; have p305 : 0 ≤ (x5_1 : Int) := of_decide_eq_true (by first | (with_reducible assumption) | assumption); have q305 : x5_1 < (l0.length : Int) := of_decide_eq_true (by first | (with_reducible assumption) | assumption); obtain ⟨ad305, e305, hx305_0, hx305_1, hx305_2⟩ := at_T40 HR0.out x5_1 p305 q305; obtain rfl : ad303 = ad305 := (by injection e305); replace p305 := eq_true p305; replace q305 := eq_true q305; have p306 : 0 ≤ (x5_1 : Int) := of_decide_eq_true (by first | (with_reducible assumption) | assumption); have q306 : x5_1 < (l0.length : Int) := of_decide_eq_true (by first | (with_reducible assumption) | assumption); obtain ⟨ad306, e306, hx306_0, hx306_1, hx306_2⟩ := at_T40 HR0.out x5_1 p306 q306; obtain rfl : ad303 = ad306 := (by injection e306); replace p306 := eq_true p306; replace q306 := eq_true q306))
                go_roundg k1
                case measure => have := HK1.out; omega
                case rel => exact ⟨(wrap64 (x5_1 + 1)), (by first | rfl | (simp; done) | (simp [*]; done)), H', ⟨by have := HK1.out; omega⟩, by repeat (first | exact Drawn0.refl _ | apply Drawn0.step)⟩
              · rw [if_neg c9] at H
                have c9b0 : (t304.toList == ((rd_T40 l0 x5_1).f2).toList) = true := beq_iff_eq.mpr (Classical.not_not.mp c9)
                have c9b1 : (t304.toList != ((rd_T40 l0 x5_1).f2).toList) = false := by simpa using c9
                obtain rfl := Option.some.inj H
                have p303 : 0 ≤ (x5_1 : Int) := of_decide_eq_true (by first | (with_reducible assumption) | assumption)
                have q303 : x5_1 < (l0.length : Int) := of_decide_eq_true (by first | (with_reducible assumption) | assumption)
                obtain ⟨ad303, e303, hx303_0, hx303_1, hx303_2⟩ := at_T40 HR0.out x5_1 p303 q303
                cases e303
                replace p303 := eq_true p303
                replace q303 := eq_true q303
                go_wp2_with (first | ((with_reducible refine gate_callee (f := 59) rfl ?_); refine goesL_ (some 21) rfl rfl Try.func59 (by kernel_rfl) rfl #[.slice A1 l1.length c1, .string ((rd_T40 l0 x5_1).f0)] rfl (by (try simp only [List.map_toArray, List.map_cons, List.map_nil]); first | done | rfl | (simp only [List.length_drop, List.length_take]; rfl)) ?_; (with_reducible refine (tocsinref07_Value.calls k1 _ _ l1 ((rd_T40 l0 x5_1).f0) t304 _ ?side1 ?side2 A5.out).mono ?_); (case side1 => repeat (first | exact HR1.out | (with_reducible refine Kd.C_alloc ?_ _) | (with_reducible refine Kd.C_drewN ?_ _) | (with_reducible refine Kd.C_drew ?_))); (case side2 => exact HC1.out); rintro e w' ⟨rfl, ⟨nd, rfl⟩⟩; refine ⟨_, rfl, ?_⟩; have p305 : 0 ≤ (x5_1 : Int) := of_decide_eq_true (by first | (with_reducible assumption) | assumption); have q305 : x5_1 < (l0.length : Int) := of_decide_eq_true (by first | (with_reducible assumption) | assumption); obtain ⟨ad305, e305, hx305_0, hx305_1, hx305_2⟩ := at_T40 HR0.out x5_1 p305 q305; obtain rfl : ad303 = ad305 := (by injection e305); replace p305 := eq_true p305; replace q305 := eq_true q305; have p306 : 0 ≤ (x5_1 : Int) := of_decide_eq_true (by first | (with_reducible assumption) | assumption); have q306 : x5_1 < (l0.length : Int) := of_decide_eq_true (by first | (with_reducible assumption) | assumption); obtain ⟨ad306, e306, hx306_0, hx306_1, hx306_2⟩ := at_T40 HR0.out x5_1 p306 q306; obtain rfl : ad303 = ad306 := (by injection e306); replace p306 := eq_true p306; replace q306 := eq_true q306))
                go_ret
                exact ⟨by first | rfl | (simp; done) | (simp [*]; done), by repeat (first | exact Drawn0.refl _ | apply Drawn0.step)⟩
            · rw [if_neg c8] at H
              have c8b0 : (((rd_T40 l0 x5_1).f1) == 1) = false := beq_eq_false_iff_ne.mpr c8
              have c8b1 : (((rd_T40 l0 x5_1).f1) != 1) = true := bne_iff_ne.mpr c8
              by_cases c10 : ((rd_T40 l0 x5_1).f1) = 2
              · rw [if_pos c10] at H
                have c10b0 : (((rd_T40 l0 x5_1).f1) == 2) = true := beq_iff_eq.mpr c10
                have c10b1 : (((rd_T40 l0 x5_1).f1) != 2) = false := bne_eq_false_iff_eq.mpr c10
                clear c10
                by_cases c11 : (t304.size : Int) ≥ (((rd_T40 l0 x5_1).f2).size : Int)
                · rw [if_pos c11] at H
                  have c11b0 : decide ((((rd_T40 l0 x5_1).f2).size : Int) ≤ (t304.size : Int)) = true := decide_eq_true c11
                  have c11b1 : decide (((rd_T40 l0 x5_1).f2).size ≤ t304.size) = true := decide_eq_true (Int.ofNat_le.mp c11)
                  clear c11
                  by_cases c12 : 0 ≤ (((rd_T40 l0 x5_1).f2).size : Int)
                  · rw [if_pos c12] at H
                    have c12b0 := eq_true c12
                    have c12b1 : decide (0 ≤ (((rd_T40 l0 x5_1).f2).size : Int)) = true := decide_eq_true c12
                    clear c12
                    by_cases c13 : (((rd_T40 l0 x5_1).f2).size : Int) ≤ (t304.size : Int)
                    · rw [if_pos c13] at H
                      have c13b0 := eq_true c13
                      have c13b1 : decide ((((rd_T40 l0 x5_1).f2).size : Int) ≤ (t304.size : Int)) = true := decide_eq_true c13
                      clear c13
                      by_cases c14 : ((t304.extract 0 ((((rd_T40 l0 x5_1).f2).size : Int) : Int).toNat).toList = ((rd_T40 l0 x5_1).f2).toList)
                      · rw [if_pos c14] at H
                        have c14b0 : ((t304.extract 0 ((((rd_T40 l0 x5_1).f2).size : Int) : Int).toNat).toList == ((rd_T40 l0 x5_1).f2).toList) = true := beq_iff_eq.mpr c14
                        have c14b0z := c14b0
                        simp only [Int.toNat_natCast] at c14b0z
                        have c14b1 : ((t304.extract 0 ((((rd_T40 l0 x5_1).f2).size : Int) : Int).toNat).toList != ((rd_T40 l0 x5_1).f2).toList) = false := bne_eq_false_iff_eq.mpr c14
                        have c14b1z := c14b1
                        simp only [Int.toNat_natCast] at c14b1z
                        clear c14
                        have H' := Aside0.mk H
                        clear H
                        have p303 : 0 ≤ (x5_1 : Int) := of_decide_eq_true (by first | (with_reducible assumption) | assumption)
                        have q303 : x5_1 < (l0.length : Int) := of_decide_eq_true (by first | (with_reducible assumption) | assumption)
                        obtain ⟨ad303, e303, hx303_0, hx303_1, hx303_2⟩ := at_T40 HR0.out x5_1 p303 q303
                        cases e303
                        replace p303 := eq_true p303
                        replace q303 := eq_true q303
                        go_wp2_with (first | ((with_reducible refine gate_callee (f := 59) rfl ?_); refine goesL_ (some 21) rfl rfl Try.func59 (by kernel_rfl) rfl #[.slice A1 l1.length c1, .string ((rd_T40 l0 x5_1).f0)] rfl (by (try simp only [List.map_toArray, List.map_cons, List.map_nil]); first | done | rfl | (simp only [List.length_drop, List.length_take]; rfl)) ?_; (with_reducible refine (tocsinref07_Value.calls k1 _ _ l1 ((rd_T40 l0 x5_1).f0) t304 _ ?side1 ?side2 A5.out).mono ?_); (case side1 => repeat (first | exact HR1.out | (with_reducible refine Kd.C_alloc ?_ _) | (with_reducible refine Kd.C_drewN ?_ _) | (with_reducible refine Kd.C_drew ?_))); (case side2 => exact HC1.out); rintro e w' ⟨rfl, ⟨nd, rfl⟩⟩; refine ⟨_, rfl, ?_⟩; have p305 : 0 ≤ (x5_1 : Int) := of_decide_eq_true (by first | (with_reducible assumption) | assumption); have q305 : x5_1 < (l0.length : Int) := of_decide_eq_true (by first | (with_reducible assumption) | assumption); obtain ⟨ad305, e305, hx305_0, hx305_1, hx305_2⟩ := at_T40 HR0.out x5_1 p305 q305; obtain rfl : ad303 = ad305 := (by injection e305); replace p305 := eq_true p305; replace q305 := eq_true q305; have p306 : 0 ≤ (x5_1 : Int) := of_decide_eq_true (by first | (with_reducible assumption) | assumption); have q306 : x5_1 < (l0.length : Int) := of_decide_eq_true (by first | (with_reducible assumption) | assumption); obtain ⟨ad306, e306, hx306_0, hx306_1, hx306_2⟩ := at_T40 HR0.out x5_1 p306 q306; obtain rfl : ad303 = ad306 := (by injection e306); replace p306 := eq_true p306; replace q306 := eq_true q306))
                        go_roundg k1
                        case measure => have := HK1.out; omega
                        case rel => exact ⟨(wrap64 (x5_1 + 1)), (by first | rfl | (simp; done) | (simp [*]; done)), H', ⟨by have := HK1.out; omega⟩, by repeat (first | exact Drawn0.refl _ | apply Drawn0.step)⟩
                      · rw [if_neg c14] at H
                        have c14b0 : ((t304.extract 0 ((((rd_T40 l0 x5_1).f2).size : Int) : Int).toNat).toList == ((rd_T40 l0 x5_1).f2).toList) = false := beq_eq_false_iff_ne.mpr c14
                        have c14b0z := c14b0
                        simp only [Int.toNat_natCast] at c14b0z
                        have c14b1 : ((t304.extract 0 ((((rd_T40 l0 x5_1).f2).size : Int) : Int).toNat).toList != ((rd_T40 l0 x5_1).f2).toList) = true := bne_iff_ne.mpr c14
                        have c14b1z := c14b1
                        simp only [Int.toNat_natCast] at c14b1z
                        obtain rfl := Option.some.inj H
                        have p303 : 0 ≤ (x5_1 : Int) := of_decide_eq_true (by first | (with_reducible assumption) | assumption)
                        have q303 : x5_1 < (l0.length : Int) := of_decide_eq_true (by first | (with_reducible assumption) | assumption)
                        obtain ⟨ad303, e303, hx303_0, hx303_1, hx303_2⟩ := at_T40 HR0.out x5_1 p303 q303
                        cases e303
                        replace p303 := eq_true p303
                        replace q303 := eq_true q303
                        go_wp2_with (first | ((with_reducible refine gate_callee (f := 59) rfl ?_); refine goesL_ (some 21) rfl rfl Try.func59 (by kernel_rfl) rfl #[.slice A1 l1.length c1, .string ((rd_T40 l0 x5_1).f0)] rfl (by (try simp only [List.map_toArray, List.map_cons, List.map_nil]); first | done | rfl | (simp only [List.length_drop, List.length_take]; rfl)) ?_; (with_reducible refine (tocsinref07_Value.calls k1 _ _ l1 ((rd_T40 l0 x5_1).f0) t304 _ ?side1 ?side2 A5.out).mono ?_); (case side1 => repeat (first | exact HR1.out | (with_reducible refine Kd.C_alloc ?_ _) | (with_reducible refine Kd.C_drewN ?_ _) | (with_reducible refine Kd.C_drew ?_))); (case side2 => exact HC1.out); rintro e w' ⟨rfl, ⟨nd, rfl⟩⟩; refine ⟨_, rfl, ?_⟩; have p305 : 0 ≤ (x5_1 : Int) := of_decide_eq_true (by first | (with_reducible assumption) | assumption); have q305 : x5_1 < (l0.length : Int) := of_decide_eq_true (by first | (with_reducible assumption) | assumption); obtain ⟨ad305, e305, hx305_0, hx305_1, hx305_2⟩ := at_T40 HR0.out x5_1 p305 q305; obtain rfl : ad303 = ad305 := (by injection e305); replace p305 := eq_true p305; replace q305 := eq_true q305; have p306 : 0 ≤ (x5_1 : Int) := of_decide_eq_true (by first | (with_reducible assumption) | assumption); have q306 : x5_1 < (l0.length : Int) := of_decide_eq_true (by first | (with_reducible assumption) | assumption); obtain ⟨ad306, e306, hx306_0, hx306_1, hx306_2⟩ := at_T40 HR0.out x5_1 p306 q306; obtain rfl : ad303 = ad306 := (by injection e306); replace p306 := eq_true p306; replace q306 := eq_true q306))
                        go_ret
                        exact ⟨by first | rfl | (simp; done) | (simp [*]; done), by repeat (first | exact Drawn0.refl _ | apply Drawn0.step)⟩
                    · rw [if_neg c13] at H
                      exact absurd H (by simp)
                  · rw [if_neg c12] at H
                    exact absurd H (by simp)
                · rw [if_neg c11] at H
                  have c11b0 : decide ((((rd_T40 l0 x5_1).f2).size : Int) ≤ (t304.size : Int)) = false := decide_eq_false c11
                  have c11b1 : decide (((rd_T40 l0 x5_1).f2).size ≤ t304.size) = false := decide_eq_false (fun h => c11 (Int.ofNat_le.mpr h))
                  clear c11
                  obtain rfl := Option.some.inj H
                  have p303 : 0 ≤ (x5_1 : Int) := of_decide_eq_true (by first | (with_reducible assumption) | assumption)
                  have q303 : x5_1 < (l0.length : Int) := of_decide_eq_true (by first | (with_reducible assumption) | assumption)
                  obtain ⟨ad303, e303, hx303_0, hx303_1, hx303_2⟩ := at_T40 HR0.out x5_1 p303 q303
                  cases e303
                  replace p303 := eq_true p303
                  replace q303 := eq_true q303
                  go_wp2_with (first | ((with_reducible refine gate_callee (f := 59) rfl ?_); refine goesL_ (some 21) rfl rfl Try.func59 (by kernel_rfl) rfl #[.slice A1 l1.length c1, .string ((rd_T40 l0 x5_1).f0)] rfl (by (try simp only [List.map_toArray, List.map_cons, List.map_nil]); first | done | rfl | (simp only [List.length_drop, List.length_take]; rfl)) ?_; (with_reducible refine (tocsinref07_Value.calls k1 _ _ l1 ((rd_T40 l0 x5_1).f0) t304 _ ?side1 ?side2 A5.out).mono ?_); (case side1 => repeat (first | exact HR1.out | (with_reducible refine Kd.C_alloc ?_ _) | (with_reducible refine Kd.C_drewN ?_ _) | (with_reducible refine Kd.C_drew ?_))); (case side2 => exact HC1.out); rintro e w' ⟨rfl, ⟨nd, rfl⟩⟩; refine ⟨_, rfl, ?_⟩; have p305 : 0 ≤ (x5_1 : Int) := of_decide_eq_true (by first | (with_reducible assumption) | assumption); have q305 : x5_1 < (l0.length : Int) := of_decide_eq_true (by first | (with_reducible assumption) | assumption); obtain ⟨ad305, e305, hx305_0, hx305_1, hx305_2⟩ := at_T40 HR0.out x5_1 p305 q305; obtain rfl : ad303 = ad305 := (by injection e305); replace p305 := eq_true p305; replace q305 := eq_true q305; have p306 : 0 ≤ (x5_1 : Int) := of_decide_eq_true (by first | (with_reducible assumption) | assumption); have q306 : x5_1 < (l0.length : Int) := of_decide_eq_true (by first | (with_reducible assumption) | assumption); obtain ⟨ad306, e306, hx306_0, hx306_1, hx306_2⟩ := at_T40 HR0.out x5_1 p306 q306; obtain rfl : ad303 = ad306 := (by injection e306); replace p306 := eq_true p306; replace q306 := eq_true q306))
                  go_ret
                  exact ⟨by first | rfl | (simp; done) | (simp [*]; done), by repeat (first | exact Drawn0.refl _ | apply Drawn0.step)⟩
              · rw [if_neg c10] at H
                have c10b0 : (((rd_T40 l0 x5_1).f1) == 2) = false := beq_eq_false_iff_ne.mpr c10
                have c10b1 : (((rd_T40 l0 x5_1).f1) != 2) = true := bne_iff_ne.mpr c10
                obtain rfl := Option.some.inj H
                have p303 : 0 ≤ (x5_1 : Int) := of_decide_eq_true (by first | (with_reducible assumption) | assumption)
                have q303 : x5_1 < (l0.length : Int) := of_decide_eq_true (by first | (with_reducible assumption) | assumption)
                obtain ⟨ad303, e303, hx303_0, hx303_1, hx303_2⟩ := at_T40 HR0.out x5_1 p303 q303
                cases e303
                replace p303 := eq_true p303
                replace q303 := eq_true q303
                go_wp2_with (first | ((with_reducible refine gate_callee (f := 59) rfl ?_); refine goesL_ (some 21) rfl rfl Try.func59 (by kernel_rfl) rfl #[.slice A1 l1.length c1, .string ((rd_T40 l0 x5_1).f0)] rfl (by (try simp only [List.map_toArray, List.map_cons, List.map_nil]); first | done | rfl | (simp only [List.length_drop, List.length_take]; rfl)) ?_; (with_reducible refine (tocsinref07_Value.calls k1 _ _ l1 ((rd_T40 l0 x5_1).f0) t304 _ ?side1 ?side2 A5.out).mono ?_); (case side1 => repeat (first | exact HR1.out | (with_reducible refine Kd.C_alloc ?_ _) | (with_reducible refine Kd.C_drewN ?_ _) | (with_reducible refine Kd.C_drew ?_))); (case side2 => exact HC1.out); rintro e w' ⟨rfl, ⟨nd, rfl⟩⟩; refine ⟨_, rfl, ?_⟩; have p305 : 0 ≤ (x5_1 : Int) := of_decide_eq_true (by first | (with_reducible assumption) | assumption); have q305 : x5_1 < (l0.length : Int) := of_decide_eq_true (by first | (with_reducible assumption) | assumption); obtain ⟨ad305, e305, hx305_0, hx305_1, hx305_2⟩ := at_T40 HR0.out x5_1 p305 q305; obtain rfl : ad303 = ad305 := (by injection e305); replace p305 := eq_true p305; replace q305 := eq_true q305; have p306 : 0 ≤ (x5_1 : Int) := of_decide_eq_true (by first | (with_reducible assumption) | assumption); have q306 : x5_1 < (l0.length : Int) := of_decide_eq_true (by first | (with_reducible assumption) | assumption); obtain ⟨ad306, e306, hx306_0, hx306_1, hx306_2⟩ := at_T40 HR0.out x5_1 p306 q306; obtain rfl : ad303 = ad306 := (by injection e306); replace p306 := eq_true p306; replace q306 := eq_true q306))
                go_ret
                exact ⟨by first | rfl | (simp; done) | (simp [*]; done), by repeat (first | exact Drawn0.refl _ | apply Drawn0.step)⟩
        · rw [if_neg c4] at H
          exact absurd H (by simp)
      · rw [if_neg c3] at H
        have c3b0 : decide (x5_1 < (l0.length : Int)) = false := decide_eq_false c3
        clear c3
        obtain rfl := Option.some.inj H
        go_wp2
        go_ret
        exact ⟨by first | rfl | (simp; done) | (simp [*]; done), by repeat (first | exact Drawn0.refl _ | apply Drawn0.step)⟩

-- NOT PRINTED: function 18 (tocsinref17_Store_Select)

-- NOT PRINTED: function 19 (tocsinlaw17_spoil)

-- NOT PRINTED: function 20 (tocsinlaw17_awake)

-- NOT PRINTED: function 4 (tocsinlaw17_SeriesPlays)

-- NOT PRINTED: function 5 (tocsinlaw17_SeriesNil)

-- NOT PRINTED: function 6 (tocsinlaw17_SeriesApart)

-- NOT PRINTED: function 7 (tocsinlaw17_SeriesSelects)

end Go.Proofs.Ytlhlaadnifkdhaa.Q

/- Functions of the program as plain Lean functions, each with the proof that its call comes to just these answers: written by a program of this session (wip/tools/printg.py over the kit's print) for this claim. -/
import Derived.Test.YtiicfejaoilfcaaQ0
import Derived.Test.YtiicfejaoilfcaaQ1
import Derived.Test.YtiicfejaoilfcaaQ12
import Derived.Test.YtiicfejaoilfcaaQ13
import Derived.Test.YtiicfejaoilfcaaQ16
import Derived.Test.YtiicfejaoilfcaaQ19
import Derived.Test.YtiicfejaoilfcaaQ25
namespace Go.Proofs.Ytiicfejaoilfcaa.Q
open Go.RowKit Go.Proofs.YtiicfejaoilfcaaW.PrintWords Go.Proofs.YtiicfejaoilfcaaW.PrintLast Go.Proofs.YtiicfejaoilfcaaW.PrintMore
attribute [local go_sem] Opn.str_leq Opn.str_gtr Opn.str_geq max2_int min2_int max_two min_two max_three min_three max_four min_four   -- for this text's walks alone
set_option linter.unusedVariables false
set_option linter.unusedSimpArgs false

attribute [local go_sem high] eqA31
/-! ### tocsinlaw07_LabelsQuote: function 9 -/
def tocsinlaw07_LabelsQuote.j0 : Nat → ByteArray → ByteArray → Bool → Option (Bool)
  | 0, _, _, _ => none
  | k + 1, x0, x1, x17 => if x17 = true then (some true) else (if 1 + x0.size ≤ 9223372036854775807 then (if ((⟨#[123]⟩ : ByteArray) ++ x0).size + 1 ≤ 9223372036854775807 then ((labels_Quote.f x1).bind fun t282 => (if (((⟨#[123]⟩ : ByteArray) ++ x0) ++ (⟨#[61]⟩ : ByteArray)).size + t282.size ≤ 9223372036854775807 then (if ((((⟨#[123]⟩ : ByteArray) ++ x0) ++ (⟨#[61]⟩ : ByteArray)) ++ t282).size + 1 ≤ 9223372036854775807 then ((labels_Parse.f k (((((⟨#[123]⟩ : ByteArray) ++ x0) ++ (⟨#[61]⟩ : ByteArray)) ++ t282) ++ (⟨#[125]⟩ : ByteArray))).bind fun bt283 => ((labels_MayValue.f x1).bind fun t288 => (if t288 = true then (if bt283.2.2 = 0 then (if (bt283.1.length : Int) = 1 then (if 0 < (bt283.1.length : Int) then (if ((((rd_T31 bt283.1 0).f0).toList) == x0.toList && ((((rd_T31 bt283.1 0).f1).toList) == x1.toList)) = true then (some (bt283.2.1.toList == ([] : List UInt8))) else (some false)) else (none)) else (some false)) else (some false)) else (if bt283.2.2 = 70 then (some ((bt283.1.length : Int) == 0)) else (some false))))) else (none)) else (none))) else (none)) else (none))
def tocsinlaw07_LabelsQuote.f (k : Nat) (a0 : ByteArray) (a1 : ByteArray) : Option (Bool) := (tocsinlaw07_awake.f k).bind fun t280 => (if t280 = true then (if (a1.size : Int) > 1000 then (tocsinlaw07_LabelsQuote.j0 k a0 a1 true) else ((labels_MayName.f a0).bind fun t281 => (tocsinlaw07_LabelsQuote.j0 k a0 a1 (!t281)))) else (some false))
theorem tocsinlaw07_LabelsQuote.mono_l : ∀ k, (∀ y0 y1 y2, LeO (tocsinlaw07_LabelsQuote.j0 k y0 y1 y2) (tocsinlaw07_LabelsQuote.j0 (k + 1) y0 y1 y2))
  | 0 => fun _ _ _ r h => by simp [tocsinlaw07_LabelsQuote.j0] at h
  | k + 1 => by
    have ih0 := tocsinlaw07_LabelsQuote.mono_l k
    · intro y0 y1 y2
      unfold tocsinlaw07_LabelsQuote.j0
      repeat' first
      | (with_reducible exact ih0 _ _ _)
      | (with_reducible exact labels_Parse.mono _ _)
      | (with_reducible exact tocsinlaw07_awake.mono _)
      | (with_reducible exact LeO.refl _)
      | (with_reducible exact LeO.none _)
      | (with_reducible refine LeO.ite ?_ ?_)
      | (with_reducible refine LeO.bind ?_ (fun _ => ?_))
      | exact ih0 _ _ _
      | exact labels_Parse.mono _ _
      | exact tocsinlaw07_awake.mono _
      | exact LeO.none _
      | refine LeO.ite ?_ ?_
      | refine LeO.bind ?_ (fun _ => ?_)
theorem tocsinlaw07_LabelsQuote.mono : ∀ a0 a1 k, LeO (tocsinlaw07_LabelsQuote.f k a0 a1) (tocsinlaw07_LabelsQuote.f (k + 1) a0 a1) := by
  intro a0 a1 k
  have ih0 := tocsinlaw07_LabelsQuote.mono_l k
  unfold tocsinlaw07_LabelsQuote.f
  repeat' first
      | (with_reducible exact ih0 _ _ _)
      | (with_reducible exact labels_Parse.mono _ _)
      | (with_reducible exact tocsinlaw07_awake.mono _)
      | (with_reducible exact LeO.refl _)
      | (with_reducible exact LeO.none _)
      | (with_reducible refine LeO.ite ?_ ?_)
      | (with_reducible refine LeO.bind ?_ (fun _ => ?_))
      | exact ih0 _ _ _
      | exact labels_Parse.mono _ _
      | exact tocsinlaw07_awake.mono _
      | exact LeO.none _
      | refine LeO.ite ?_ ?_
      | refine LeO.bind ?_ (fun _ => ?_)
set_option maxHeartbeats 8000000 in
set_option maxRecDepth 100000 in
theorem tocsinlaw07_LabelsQuote.calls (k : Nat) (a0 : ByteArray) (a1 : ByteArray) (r : Bool) (w : World) (h : tocsinlaw07_LabelsQuote.f k a0 a1 = some r) :
    Calls Try.prog 9 #[.string a0, .string a1] w fun e w' => e = .returned (.bool r) ∧ Below w.heap.size w w' := by
  have hu31 := Try.underlying31
  have HB := Aside0.mk (Below.refl w.heap.size w)
  have H : ((tocsinlaw07_awake.f k).bind fun t280 => (if t280 = true then (if (a1.size : Int) > 1000 then (tocsinlaw07_LabelsQuote.j0 k a0 a1 true) else ((labels_MayName.f a0).bind fun t281 => (tocsinlaw07_LabelsQuote.j0 k a0 a1 (!t281)))) else (some false))) = some r := h
  clear h
  replace H := Option.bind_eq_some_iff.mp H
  obtain ⟨t280, A30, H⟩ := H
  replace H : (if t280 = true then (if (a1.size : Int) > 1000 then (tocsinlaw07_LabelsQuote.j0 k a0 a1 true) else ((labels_MayName.f a0).bind fun t281 => (tocsinlaw07_LabelsQuote.j0 k a0 a1 (!t281)))) else (some false)) = some r := H
  have A3 := Aside0.mk A30
  clear A30
  by_cases c4 : t280 = true
  · subst c4
    have H1 : (if (a1.size : Int) > 1000 then (tocsinlaw07_LabelsQuote.j0 k a0 a1 true) else ((labels_MayName.f a0).bind fun t281 => (tocsinlaw07_LabelsQuote.j0 k a0 a1 (!t281)))) = some r := by rw [if_pos rfl] at H; exact H
    clear H
    have H := H1
    clear H1
    have HC5 := Aside0.mk H
    clear H
    go_enter Try.func9, Try.ntmps9
    go_upto_region 3 with (first | ((with_reducible refine gate_callee (f := 31) rfl ?_); refine goesL_ (some 8) rfl rfl Try.func31 (by kernel_rfl) rfl #[] rfl (by (try simp only [List.map_toArray, List.map_cons, List.map_nil]); first | done | rfl | (simp only [List.length_drop, List.length_take]; rfl)) ?_; (with_reducible refine (tocsinlaw07_awake.calls k  true _ A3.out).mono ?_); rintro e w6 ⟨rfl, hb⟩; refine ⟨_, rfl, ?_⟩; have n0_ := Aside0.mk (below_step (by repeat (first | (with_reducible first | exact HB.out | apply below_alloc | apply pw_below_drewN | apply below_drew1) | exact HB.out)) hb); clear HB; have HB := n0_; clear n0_; (try clear hb); (try clear hb2); (try clear hk); (try clear hi)))
    (try simp only [Act.put, List.setIfInBounds_toArray, List.set_cons_zero, List.set_cons_succ])
    go_cut [17] (fun v17 wc => ∃ (kq : Nat) (x17_4 : Bool), v17 = .bool x17_4 ∧ Aside0 (tocsinlaw07_LabelsQuote.j0 kq a0 a1 x17_4 = some r) ∧ Aside0 (kq ≤ k) ∧ Aside0 (Below w.heap.size w wc))
    case first =>
      have H := HC5.out
      clear HC5
      by_cases c7 : (a1.size : Int) > 1000
      · rw [if_pos c7] at H
        have c7b0 : decide (1000 < (a1.size : Int)) = true := decide_eq_true c7
        have c7b1 : decide (1000 < a1.size) = true := decide_eq_true (by omega)
        clear c7
        (first | rw [c7b0] | (simp only [i64_w, i32_w]; rw [c7b0]) | skip)
        have H' := Aside0.mk H
        clear H
        go_wp2
        go_meet
        case rel => exact ⟨_, (true), (by first | rfl | (simp; done) | (simp [*]; done)), H', ⟨by first | omega | exact Nat.le_refl _⟩, ⟨by repeat (first | (with_reducible first | exact HB.out | apply below_alloc | apply pw_below_drewN | apply below_drew1) | exact HB.out)⟩⟩
      · rw [if_neg c7] at H
        have c7b0 : decide (1000 < (a1.size : Int)) = false := decide_eq_false c7
        have c7b1 : decide (1000 < a1.size) = false := decide_eq_false (by omega)
        clear c7
        (first | rw [c7b0] | (simp only [i64_w, i32_w]; rw [c7b0]) | skip)
        replace H := Option.bind_eq_some_iff.mp H
        obtain ⟨t281, A80, H⟩ := H
        replace H : (tocsinlaw07_LabelsQuote.j0 k a0 a1 (!t281)) = some r := H
        have A8 := Aside0.mk A80
        clear A80
        have H' := Aside0.mk H
        clear H
        go_wp2_with (first | (go_at_call 25; (with_reducible refine (labels_MayName.calls a0 t281 _ A8.out).mono ?_); rintro e w' ⟨rfl, ⟨nd, rfl⟩⟩))
        go_meet
        case rel => exact ⟨_, (!t281), (by first | rfl | (simp; done) | (simp [*]; done)), H', ⟨by first | omega | exact Nat.le_refl _⟩, ⟨by repeat (first | (with_reducible first | exact HB.out | apply below_alloc | apply pw_below_drewN | apply below_drew1) | exact HB.out)⟩⟩
    case rest =>
      clear HC5
      try clear p2
      try clear c3
      try clear c4
      try clear c7
      try clear c7b0
      try clear c7b1
      obtain ⟨kq, x17_4, rfl, HA, HJ4, HB⟩ := hcut
      cases kq with
      | zero => exact absurd HA.out (by simp [tocsinlaw07_LabelsQuote.j0])
      | succ kj4 =>
        have H := HA.out
        clear HA
        simp only [tocsinlaw07_LabelsQuote.j0] at H
        by_cases c9 : x17_4 = true
        · subst c9
          have H1 : (some true) = some r := by rw [if_pos rfl] at H; exact H
          clear H
          have H := H1
          clear H1
          obtain rfl := Option.some.inj H
          go_wp2
          go_ret
          exact ⟨by first | rfl | (simp [errW_none, errW_some] <;> rfl) | (simp only [Opn.bne_nil, Opn.beq_nil]; done) | (simp [Opn.bne_nil, Opn.beq_nil]; done) | (simp [*, errW_none, errW_some] <;> rfl), by repeat (first | (with_reducible first | exact HB.out | apply below_alloc | apply pw_below_drewN | apply below_drew1) | exact HB.out)⟩
        · replace c9 := Bool.eq_false_iff.mpr c9
          subst c9
          have H1 : (if 1 + a0.size ≤ 9223372036854775807 then (if ((⟨#[123]⟩ : ByteArray) ++ a0).size + 1 ≤ 9223372036854775807 then ((labels_Quote.f a1).bind fun t282 => (if (((⟨#[123]⟩ : ByteArray) ++ a0) ++ (⟨#[61]⟩ : ByteArray)).size + t282.size ≤ 9223372036854775807 then (if ((((⟨#[123]⟩ : ByteArray) ++ a0) ++ (⟨#[61]⟩ : ByteArray)) ++ t282).size + 1 ≤ 9223372036854775807 then ((labels_Parse.f kj4 (((((⟨#[123]⟩ : ByteArray) ++ a0) ++ (⟨#[61]⟩ : ByteArray)) ++ t282) ++ (⟨#[125]⟩ : ByteArray))).bind fun bt283 => ((labels_MayValue.f a1).bind fun t288 => (if t288 = true then (if bt283.2.2 = 0 then (if (bt283.1.length : Int) = 1 then (if 0 < (bt283.1.length : Int) then (if ((((rd_T31 bt283.1 0).f0).toList) == a0.toList && ((((rd_T31 bt283.1 0).f1).toList) == a1.toList)) = true then (some (bt283.2.1.toList == ([] : List UInt8))) else (some false)) else (none)) else (some false)) else (some false)) else (if bt283.2.2 = 70 then (some ((bt283.1.length : Int) == 0)) else (some false))))) else (none)) else (none))) else (none)) else (none)) = some r := by rw [if_neg (show ¬ (false = true) by decide)] at H; exact H
          clear H
          have H := H1
          clear H1
          by_cases c10 : 1 + a0.size ≤ 9223372036854775807
          · rw [if_pos c10] at H
            have c10b0 := eq_true c10
            have c10b1 : decide (1 + a0.size ≤ 9223372036854775807) = true := decide_eq_true c10
            try have c10b2 : (9223372036854775807 < 1 + a0.size) = False := eq_false (Nat.not_lt.2 c10)
            by_cases c11 : ((⟨#[123]⟩ : ByteArray) ++ a0).size + 1 ≤ 9223372036854775807
            · rw [if_pos c11] at H
              have c11b0 := eq_true c11
              have c11b1 : decide (((⟨#[123]⟩ : ByteArray) ++ a0).size + 1 ≤ 9223372036854775807) = true := decide_eq_true c11
              try have c11b2 : (9223372036854775807 < ((⟨#[123]⟩ : ByteArray) ++ a0).size + 1) = False := eq_false (Nat.not_lt.2 c11)
              try have c11b3 : (9223372036854775807 < 1 + a0.size + 1) = False := eq_false (Nat.not_lt.2 (Nat.le_trans (Nat.le_of_eq (by first | (simp only [ByteArray.size_append]; done) | (simp only [ByteArray.size_append]; rfl) | (simp; done))) c11))
              replace H := Option.bind_eq_some_iff.mp H
              obtain ⟨t282, A120, H⟩ := H
              replace H : (if (((⟨#[123]⟩ : ByteArray) ++ a0) ++ (⟨#[61]⟩ : ByteArray)).size + t282.size ≤ 9223372036854775807 then (if ((((⟨#[123]⟩ : ByteArray) ++ a0) ++ (⟨#[61]⟩ : ByteArray)) ++ t282).size + 1 ≤ 9223372036854775807 then ((labels_Parse.f kj4 (((((⟨#[123]⟩ : ByteArray) ++ a0) ++ (⟨#[61]⟩ : ByteArray)) ++ t282) ++ (⟨#[125]⟩ : ByteArray))).bind fun bt283 => ((labels_MayValue.f a1).bind fun t288 => (if t288 = true then (if bt283.2.2 = 0 then (if (bt283.1.length : Int) = 1 then (if 0 < (bt283.1.length : Int) then (if ((((rd_T31 bt283.1 0).f0).toList) == a0.toList && ((((rd_T31 bt283.1 0).f1).toList) == a1.toList)) = true then (some (bt283.2.1.toList == ([] : List UInt8))) else (some false)) else (none)) else (some false)) else (some false)) else (if bt283.2.2 = 70 then (some ((bt283.1.length : Int) == 0)) else (some false))))) else (none)) else (none)) = some r := H
              have A12 := Aside0.mk A120
              clear A120
              by_cases c13 : (((⟨#[123]⟩ : ByteArray) ++ a0) ++ (⟨#[61]⟩ : ByteArray)).size + t282.size ≤ 9223372036854775807
              · rw [if_pos c13] at H
                have c13b0 := eq_true c13
                have c13b1 : decide ((((⟨#[123]⟩ : ByteArray) ++ a0) ++ (⟨#[61]⟩ : ByteArray)).size + t282.size ≤ 9223372036854775807) = true := decide_eq_true c13
                try have c13b2 : (9223372036854775807 < (((⟨#[123]⟩ : ByteArray) ++ a0) ++ (⟨#[61]⟩ : ByteArray)).size + t282.size) = False := eq_false (Nat.not_lt.2 c13)
                try have c13b3 : (9223372036854775807 < 1 + a0.size + 1 + t282.size) = False := eq_false (Nat.not_lt.2 (Nat.le_trans (Nat.le_of_eq (by first | (simp only [ByteArray.size_append]; done) | (simp only [ByteArray.size_append]; rfl) | (simp; done))) c13))
                by_cases c14 : ((((⟨#[123]⟩ : ByteArray) ++ a0) ++ (⟨#[61]⟩ : ByteArray)) ++ t282).size + 1 ≤ 9223372036854775807
                · rw [if_pos c14] at H
                  have c14b0 := eq_true c14
                  have c14b1 : decide (((((⟨#[123]⟩ : ByteArray) ++ a0) ++ (⟨#[61]⟩ : ByteArray)) ++ t282).size + 1 ≤ 9223372036854775807) = true := decide_eq_true c14
                  try have c14b2 : (9223372036854775807 < ((((⟨#[123]⟩ : ByteArray) ++ a0) ++ (⟨#[61]⟩ : ByteArray)) ++ t282).size + 1) = False := eq_false (Nat.not_lt.2 c14)
                  try have c14b3 : (9223372036854775807 < 1 + a0.size + 1 + t282.size + 1) = False := eq_false (Nat.not_lt.2 (Nat.le_trans (Nat.le_of_eq (by first | (simp only [ByteArray.size_append]; done) | (simp only [ByteArray.size_append]; rfl) | (simp; done))) c14))
                  replace H := Option.bind_eq_some_iff.mp H
                  obtain ⟨⟨t283, t284, t285⟩, A150, H⟩ := H
                  replace H : ((labels_MayValue.f a1).bind fun t288 => (if t288 = true then (if t285 = 0 then (if (t283.length : Int) = 1 then (if 0 < (t283.length : Int) then (if ((((rd_T31 t283 0).f0).toList) == a0.toList && ((((rd_T31 t283 0).f1).toList) == a1.toList)) = true then (some (t284.toList == ([] : List UInt8))) else (some false)) else (none)) else (some false)) else (some false)) else (if t285 = 70 then (some ((t283.length : Int) == 0)) else (some false)))) = some r := H
                  have A15 := Aside0.mk A150
                  clear A150
                  replace H := Option.bind_eq_some_iff.mp H
                  obtain ⟨t288, A160, H⟩ := H
                  replace H : (if t288 = true then (if t285 = 0 then (if (t283.length : Int) = 1 then (if 0 < (t283.length : Int) then (if ((((rd_T31 t283 0).f0).toList) == a0.toList && ((((rd_T31 t283 0).f1).toList) == a1.toList)) = true then (some (t284.toList == ([] : List UInt8))) else (some false)) else (none)) else (some false)) else (some false)) else (if t285 = 70 then (some ((t283.length : Int) == 0)) else (some false))) = some r := H
                  have A16 := Aside0.mk A160
                  clear A160
                  by_cases c17 : t288 = true
                  · subst c17
                    have H1 : (if t285 = 0 then (if (t283.length : Int) = 1 then (if 0 < (t283.length : Int) then (if ((((rd_T31 t283 0).f0).toList) == a0.toList && ((((rd_T31 t283 0).f1).toList) == a1.toList)) = true then (some (t284.toList == ([] : List UInt8))) else (some false)) else (none)) else (some false)) else (some false)) = some r := by rw [if_pos rfl] at H; exact H
                    clear H
                    have H := H1
                    clear H1
                    by_cases c18 : t285 = 0
                    · rw [if_pos c18] at H
                      have c18b0 : (t285 == 0) = true := beq_iff_eq.mpr c18
                      have c18b1 : (t285 != 0) = false := bne_eq_false_iff_eq.mpr c18
                      clear c18
                      by_cases c19 : (t283.length : Int) = 1
                      · rw [if_pos c19] at H
                        have c19b0 : ((t283.length : Int) == 1) = true := beq_iff_eq.mpr c19
                        have c19b1 : ((t283.length : Int) != 1) = false := bne_eq_false_iff_eq.mpr c19
                        clear c19
                        by_cases c20 : 0 < (t283.length : Int)
                        · rw [if_pos c20] at H
                          have c20b0 : decide (0 < (t283.length : Int)) = true := decide_eq_true c20
                          have c20b1 : decide (0 < t283.length) = true := decide_eq_true (by omega)
                          clear c20
                          by_cases c21 : ((((rd_T31 t283 0).f0).toList) == a0.toList && ((((rd_T31 t283 0).f1).toList) == a1.toList)) = true
                          · rw [if_pos c21] at H
                            have c21b0 : ((((rd_T31 t283 0).f0).toList) == a0.toList && ((((rd_T31 t283 0).f1).toList) == a1.toList)) = true := c21
                            (try (have c21b1 : decide ((((rd_T31 t283 0).f0).toList) = a0.toList && ((((rd_T31 t283 0).f1).toList) == a1.toList)) = true := by simpa using c21))
                            (try (have c21b2 : ((((rd_T31 t283 0).f0).toList) == a0.toList && ((((rd_T31 t283 0).f1).toList) == a1.toList)) = true := by simpa using c21))
                            clear c21
                            obtain rfl := Option.some.inj H
                            go_wp2_with (first | ((with_reducible refine gate_callee (f := 29) rfl ?_); refine goesL_ (some 23) rfl rfl Try.func29 (by kernel_rfl) rfl #[.string a1] rfl (by (try simp only [List.map_toArray, List.map_cons, List.map_nil]); first | done | rfl | (simp only [List.length_drop, List.length_take]; rfl)) ?_; (with_reducible refine (labels_Quote.calls a1 t282 _ A12.out).mono ?_); rintro e w22 ⟨rfl, hb⟩; refine ⟨_, rfl, ?_⟩; have n0_ := Aside0.mk (below_step (by repeat (first | (with_reducible first | exact HB.out | apply below_alloc | apply pw_below_drewN | apply below_drew1) | exact HB.out)) hb); clear HB; have HB := n0_; clear n0_; (try clear hb); (try clear hb2); (try clear hk); (try clear hi)) | ((with_reducible refine gate_callee (f := 16) rfl ?_); refine goesL_ (some 26) rfl rfl Try.func16 (by kernel_rfl) rfl #[.string (((((⟨#[123]⟩ : ByteArray) ++ a0) ++ (⟨#[61]⟩ : ByteArray)) ++ t282) ++ (⟨#[125]⟩ : ByteArray))] rfl (by (try simp only [List.map_toArray, List.map_cons, List.map_nil]); first | done | rfl | (simp only [List.length_drop, List.length_take]; rfl)) ?_; (with_reducible refine (labels_Parse.calls kj4 (((((⟨#[123]⟩ : ByteArray) ++ a0) ++ (⟨#[61]⟩ : ByteArray)) ++ t282) ++ (⟨#[125]⟩ : ByteArray)) t283 t284 t285 _ A15.out).mono ?_); rintro e w23 ⟨v286, rfl, ho0, hb⟩; refine ⟨_, rfl, ?_⟩; have n0_ := Aside0.mk (Kd.R_lower ho0 (below_size (by repeat (first | (with_reducible first | exact HB.out | apply below_alloc | apply pw_below_drewN | apply below_drew1) | exact HB.out)))); have n1_ := Aside0.mk (below_step (by repeat (first | (with_reducible first | exact HB.out | apply below_alloc | apply pw_below_drewN | apply below_drew1) | exact HB.out)) hb); clear HB; have HO287 := n0_; have HB := n1_; clear n0_ n1_; (try clear hb); (try clear hb2); (try clear hk); (try clear hi); (try clear ho0)) | ((with_reducible refine gate_callee (f := 27) rfl ?_); refine goesL_ (some 31) rfl rfl Try.func27 (by kernel_rfl) rfl #[.string a1] rfl (by (try simp only [List.map_toArray, List.map_cons, List.map_nil]); first | done | rfl | (simp only [List.length_drop, List.length_take]; rfl)) ?_; (with_reducible refine (labels_MayValue.calls a1 true _ A16.out).mono ?_); rintro e w' ⟨rfl, ⟨nd, rfl⟩⟩; refine ⟨_, rfl, ?_⟩; obtain ⟨Ao24, co24, eo24⟩ := Kd.R_slice HO287.out; subst eo24; have p289 : 0 ≤ (0 : Int) := (by omega); have q289 : 0 < (t283.length : Int) := of_decide_eq_true (by first | (with_reducible assumption) | assumption); obtain ⟨ad289, e289, hx289_0, hx289_1⟩ := at_T31 (Kd.R_reads' HO287.out).2.2 0 p289 q289; cases e289; have qi289 : (0 < t283.length) = True := eq_true (by omega); (try rw [show ((0 : Int)).toNat = 0 from rfl] at hx289_0); (try rw [show 0 * 2 = 0 from rfl] at hx289_0); (try rw [Addr.add_zero'] at hx289_0); (try rw [show ((0 : Int)).toNat = 0 from rfl] at hx289_1); (try rw [show 0 * 2 = 0 from rfl] at hx289_1); (try rw [Addr.add_zero'] at hx289_1); replace p289 := eq_true p289; replace q289 := eq_true q289))
                            go_ret
                            exact ⟨by first | rfl | (simp [errW_none, errW_some] <;> rfl) | (simp only [Opn.bne_nil, Opn.beq_nil]; done) | (simp [Opn.bne_nil, Opn.beq_nil]; done) | (simp [*, errW_none, errW_some] <;> rfl), by repeat (first | (with_reducible first | exact HB.out | apply below_alloc | apply pw_below_drewN | apply below_drew1) | exact HB.out)⟩
                          · rw [if_neg c21] at H
                            have c21b0 : ((((rd_T31 t283 0).f0).toList) == a0.toList && ((((rd_T31 t283 0).f1).toList) == a1.toList)) = false := by simpa using c21
                            (try (have c21b1 : decide ((((rd_T31 t283 0).f0).toList) = a0.toList && ((((rd_T31 t283 0).f1).toList) == a1.toList)) = false := by simpa using c21))
                            (try (have c21b2 : ((((rd_T31 t283 0).f0).toList) == a0.toList && ((((rd_T31 t283 0).f1).toList) == a1.toList)) = false := by simpa using c21))
                            (try (have c21b3 : ¬ ((((rd_T31 t283 0).f0).toList) = a0.toList && ((((rd_T31 t283 0).f1).toList) == a1.toList)) := by simpa using c21))
                            clear c21
                            obtain rfl := Option.some.inj H
                            go_wp2_with (first | ((with_reducible refine gate_callee (f := 29) rfl ?_); refine goesL_ (some 23) rfl rfl Try.func29 (by kernel_rfl) rfl #[.string a1] rfl (by (try simp only [List.map_toArray, List.map_cons, List.map_nil]); first | done | rfl | (simp only [List.length_drop, List.length_take]; rfl)) ?_; (with_reducible refine (labels_Quote.calls a1 t282 _ A12.out).mono ?_); rintro e w25 ⟨rfl, hb⟩; refine ⟨_, rfl, ?_⟩; have n0_ := Aside0.mk (below_step (by repeat (first | (with_reducible first | exact HB.out | apply below_alloc | apply pw_below_drewN | apply below_drew1) | exact HB.out)) hb); clear HB; have HB := n0_; clear n0_; (try clear hb); (try clear hb2); (try clear hk); (try clear hi)) | ((with_reducible refine gate_callee (f := 16) rfl ?_); refine goesL_ (some 26) rfl rfl Try.func16 (by kernel_rfl) rfl #[.string (((((⟨#[123]⟩ : ByteArray) ++ a0) ++ (⟨#[61]⟩ : ByteArray)) ++ t282) ++ (⟨#[125]⟩ : ByteArray))] rfl (by (try simp only [List.map_toArray, List.map_cons, List.map_nil]); first | done | rfl | (simp only [List.length_drop, List.length_take]; rfl)) ?_; (with_reducible refine (labels_Parse.calls kj4 (((((⟨#[123]⟩ : ByteArray) ++ a0) ++ (⟨#[61]⟩ : ByteArray)) ++ t282) ++ (⟨#[125]⟩ : ByteArray)) t283 t284 t285 _ A15.out).mono ?_); rintro e w26 ⟨v286, rfl, ho0, hb⟩; refine ⟨_, rfl, ?_⟩; have n0_ := Aside0.mk (Kd.R_lower ho0 (below_size (by repeat (first | (with_reducible first | exact HB.out | apply below_alloc | apply pw_below_drewN | apply below_drew1) | exact HB.out)))); have n1_ := Aside0.mk (below_step (by repeat (first | (with_reducible first | exact HB.out | apply below_alloc | apply pw_below_drewN | apply below_drew1) | exact HB.out)) hb); clear HB; have HO287 := n0_; have HB := n1_; clear n0_ n1_; (try clear hb); (try clear hb2); (try clear hk); (try clear hi); (try clear ho0)) | ((with_reducible refine gate_callee (f := 27) rfl ?_); refine goesL_ (some 31) rfl rfl Try.func27 (by kernel_rfl) rfl #[.string a1] rfl (by (try simp only [List.map_toArray, List.map_cons, List.map_nil]); first | done | rfl | (simp only [List.length_drop, List.length_take]; rfl)) ?_; (with_reducible refine (labels_MayValue.calls a1 true _ A16.out).mono ?_); rintro e w' ⟨rfl, ⟨nd, rfl⟩⟩; refine ⟨_, rfl, ?_⟩; obtain ⟨Ao27, co27, eo27⟩ := Kd.R_slice HO287.out; subst eo27; have p289 : 0 ≤ (0 : Int) := (by omega); have q289 : 0 < (t283.length : Int) := of_decide_eq_true (by first | (with_reducible assumption) | assumption); obtain ⟨ad289, e289, hx289_0, hx289_1⟩ := at_T31 (Kd.R_reads' HO287.out).2.2 0 p289 q289; cases e289; have qi289 : (0 < t283.length) = True := eq_true (by omega); (try rw [show ((0 : Int)).toNat = 0 from rfl] at hx289_0); (try rw [show 0 * 2 = 0 from rfl] at hx289_0); (try rw [Addr.add_zero'] at hx289_0); (try rw [show ((0 : Int)).toNat = 0 from rfl] at hx289_1); (try rw [show 0 * 2 = 0 from rfl] at hx289_1); (try rw [Addr.add_zero'] at hx289_1); replace p289 := eq_true p289; replace q289 := eq_true q289))
                            go_ret
                            exact ⟨by first | rfl | (simp [errW_none, errW_some] <;> rfl) | (simp only [Opn.bne_nil, Opn.beq_nil]; done) | (simp [Opn.bne_nil, Opn.beq_nil]; done) | (simp [*, errW_none, errW_some] <;> rfl), by repeat (first | (with_reducible first | exact HB.out | apply below_alloc | apply pw_below_drewN | apply below_drew1) | exact HB.out)⟩
                        · rw [if_neg c20] at H
                          exact absurd H (by simp)
                      · rw [if_neg c19] at H
                        have c19b0 : ((t283.length : Int) == 1) = false := beq_eq_false_iff_ne.mpr c19
                        have c19b1 : ((t283.length : Int) != 1) = true := bne_iff_ne.mpr c19
                        obtain rfl := Option.some.inj H
                        go_wp2_with (first | ((with_reducible refine gate_callee (f := 29) rfl ?_); refine goesL_ (some 23) rfl rfl Try.func29 (by kernel_rfl) rfl #[.string a1] rfl (by (try simp only [List.map_toArray, List.map_cons, List.map_nil]); first | done | rfl | (simp only [List.length_drop, List.length_take]; rfl)) ?_; (with_reducible refine (labels_Quote.calls a1 t282 _ A12.out).mono ?_); rintro e w28 ⟨rfl, hb⟩; refine ⟨_, rfl, ?_⟩; have n0_ := Aside0.mk (below_step (by repeat (first | (with_reducible first | exact HB.out | apply below_alloc | apply pw_below_drewN | apply below_drew1) | exact HB.out)) hb); clear HB; have HB := n0_; clear n0_; (try clear hb); (try clear hb2); (try clear hk); (try clear hi)) | ((with_reducible refine gate_callee (f := 16) rfl ?_); refine goesL_ (some 26) rfl rfl Try.func16 (by kernel_rfl) rfl #[.string (((((⟨#[123]⟩ : ByteArray) ++ a0) ++ (⟨#[61]⟩ : ByteArray)) ++ t282) ++ (⟨#[125]⟩ : ByteArray))] rfl (by (try simp only [List.map_toArray, List.map_cons, List.map_nil]); first | done | rfl | (simp only [List.length_drop, List.length_take]; rfl)) ?_; (with_reducible refine (labels_Parse.calls kj4 (((((⟨#[123]⟩ : ByteArray) ++ a0) ++ (⟨#[61]⟩ : ByteArray)) ++ t282) ++ (⟨#[125]⟩ : ByteArray)) t283 t284 t285 _ A15.out).mono ?_); rintro e w29 ⟨v286, rfl, ho0, hb⟩; refine ⟨_, rfl, ?_⟩; have n0_ := Aside0.mk (Kd.R_lower ho0 (below_size (by repeat (first | (with_reducible first | exact HB.out | apply below_alloc | apply pw_below_drewN | apply below_drew1) | exact HB.out)))); have n1_ := Aside0.mk (below_step (by repeat (first | (with_reducible first | exact HB.out | apply below_alloc | apply pw_below_drewN | apply below_drew1) | exact HB.out)) hb); clear HB; have HO287 := n0_; have HB := n1_; clear n0_ n1_; (try clear hb); (try clear hb2); (try clear hk); (try clear hi); (try clear ho0)) | ((with_reducible refine gate_callee (f := 27) rfl ?_); refine goesL_ (some 31) rfl rfl Try.func27 (by kernel_rfl) rfl #[.string a1] rfl (by (try simp only [List.map_toArray, List.map_cons, List.map_nil]); first | done | rfl | (simp only [List.length_drop, List.length_take]; rfl)) ?_; (with_reducible refine (labels_MayValue.calls a1 true _ A16.out).mono ?_); rintro e w' ⟨rfl, ⟨nd, rfl⟩⟩; refine ⟨_, rfl, ?_⟩; obtain ⟨Ao30, co30, eo30⟩ := Kd.R_slice HO287.out; subst eo30))
                        go_ret
                        exact ⟨by first | rfl | (simp [errW_none, errW_some] <;> rfl) | (simp only [Opn.bne_nil, Opn.beq_nil]; done) | (simp [Opn.bne_nil, Opn.beq_nil]; done) | (simp [*, errW_none, errW_some] <;> rfl), by repeat (first | (with_reducible first | exact HB.out | apply below_alloc | apply pw_below_drewN | apply below_drew1) | exact HB.out)⟩
                    · rw [if_neg c18] at H
                      have c18b0 : (t285 == 0) = false := beq_eq_false_iff_ne.mpr c18
                      have c18b1 : (t285 != 0) = true := bne_iff_ne.mpr c18
                      obtain rfl := Option.some.inj H
                      go_wp2_with (first | ((with_reducible refine gate_callee (f := 29) rfl ?_); refine goesL_ (some 23) rfl rfl Try.func29 (by kernel_rfl) rfl #[.string a1] rfl (by (try simp only [List.map_toArray, List.map_cons, List.map_nil]); first | done | rfl | (simp only [List.length_drop, List.length_take]; rfl)) ?_; (with_reducible refine (labels_Quote.calls a1 t282 _ A12.out).mono ?_); rintro e w31 ⟨rfl, hb⟩; refine ⟨_, rfl, ?_⟩; have n0_ := Aside0.mk (below_step (by repeat (first | (with_reducible first | exact HB.out | apply below_alloc | apply pw_below_drewN | apply below_drew1) | exact HB.out)) hb); clear HB; have HB := n0_; clear n0_; (try clear hb); (try clear hb2); (try clear hk); (try clear hi)) | ((with_reducible refine gate_callee (f := 16) rfl ?_); refine goesL_ (some 26) rfl rfl Try.func16 (by kernel_rfl) rfl #[.string (((((⟨#[123]⟩ : ByteArray) ++ a0) ++ (⟨#[61]⟩ : ByteArray)) ++ t282) ++ (⟨#[125]⟩ : ByteArray))] rfl (by (try simp only [List.map_toArray, List.map_cons, List.map_nil]); first | done | rfl | (simp only [List.length_drop, List.length_take]; rfl)) ?_; (with_reducible refine (labels_Parse.calls kj4 (((((⟨#[123]⟩ : ByteArray) ++ a0) ++ (⟨#[61]⟩ : ByteArray)) ++ t282) ++ (⟨#[125]⟩ : ByteArray)) t283 t284 t285 _ A15.out).mono ?_); rintro e w32 ⟨v286, rfl, ho0, hb⟩; refine ⟨_, rfl, ?_⟩; have n0_ := Aside0.mk (Kd.R_lower ho0 (below_size (by repeat (first | (with_reducible first | exact HB.out | apply below_alloc | apply pw_below_drewN | apply below_drew1) | exact HB.out)))); have n1_ := Aside0.mk (below_step (by repeat (first | (with_reducible first | exact HB.out | apply below_alloc | apply pw_below_drewN | apply below_drew1) | exact HB.out)) hb); clear HB; have HO287 := n0_; have HB := n1_; clear n0_ n1_; (try clear hb); (try clear hb2); (try clear hk); (try clear hi); (try clear ho0)) | ((with_reducible refine gate_callee (f := 27) rfl ?_); refine goesL_ (some 31) rfl rfl Try.func27 (by kernel_rfl) rfl #[.string a1] rfl (by (try simp only [List.map_toArray, List.map_cons, List.map_nil]); first | done | rfl | (simp only [List.length_drop, List.length_take]; rfl)) ?_; (with_reducible refine (labels_MayValue.calls a1 true _ A16.out).mono ?_); rintro e w' ⟨rfl, ⟨nd, rfl⟩⟩; refine ⟨_, rfl, ?_⟩))
                      go_ret
                      exact ⟨by first | rfl | (simp [errW_none, errW_some] <;> rfl) | (simp only [Opn.bne_nil, Opn.beq_nil]; done) | (simp [Opn.bne_nil, Opn.beq_nil]; done) | (simp [*, errW_none, errW_some] <;> rfl), by repeat (first | (with_reducible first | exact HB.out | apply below_alloc | apply pw_below_drewN | apply below_drew1) | exact HB.out)⟩
                  · replace c17 := Bool.eq_false_iff.mpr c17
                    subst c17
                    have H1 : (if t285 = 70 then (some ((t283.length : Int) == 0)) else (some false)) = some r := by rw [if_neg (show ¬ (false = true) by decide)] at H; exact H
                    clear H
                    have H := H1
                    clear H1
                    by_cases c33 : t285 = 70
                    · rw [if_pos c33] at H
                      have c33b0 : (t285 == 70) = true := beq_iff_eq.mpr c33
                      have c33b1 : (t285 != 70) = false := bne_eq_false_iff_eq.mpr c33
                      clear c33
                      obtain rfl := Option.some.inj H
                      go_wp2_with (first | ((with_reducible refine gate_callee (f := 29) rfl ?_); refine goesL_ (some 23) rfl rfl Try.func29 (by kernel_rfl) rfl #[.string a1] rfl (by (try simp only [List.map_toArray, List.map_cons, List.map_nil]); first | done | rfl | (simp only [List.length_drop, List.length_take]; rfl)) ?_; (with_reducible refine (labels_Quote.calls a1 t282 _ A12.out).mono ?_); rintro e w34 ⟨rfl, hb⟩; refine ⟨_, rfl, ?_⟩; have n0_ := Aside0.mk (below_step (by repeat (first | (with_reducible first | exact HB.out | apply below_alloc | apply pw_below_drewN | apply below_drew1) | exact HB.out)) hb); clear HB; have HB := n0_; clear n0_; (try clear hb); (try clear hb2); (try clear hk); (try clear hi)) | ((with_reducible refine gate_callee (f := 16) rfl ?_); refine goesL_ (some 26) rfl rfl Try.func16 (by kernel_rfl) rfl #[.string (((((⟨#[123]⟩ : ByteArray) ++ a0) ++ (⟨#[61]⟩ : ByteArray)) ++ t282) ++ (⟨#[125]⟩ : ByteArray))] rfl (by (try simp only [List.map_toArray, List.map_cons, List.map_nil]); first | done | rfl | (simp only [List.length_drop, List.length_take]; rfl)) ?_; (with_reducible refine (labels_Parse.calls kj4 (((((⟨#[123]⟩ : ByteArray) ++ a0) ++ (⟨#[61]⟩ : ByteArray)) ++ t282) ++ (⟨#[125]⟩ : ByteArray)) t283 t284 t285 _ A15.out).mono ?_); rintro e w35 ⟨v286, rfl, ho0, hb⟩; refine ⟨_, rfl, ?_⟩; have n0_ := Aside0.mk (Kd.R_lower ho0 (below_size (by repeat (first | (with_reducible first | exact HB.out | apply below_alloc | apply pw_below_drewN | apply below_drew1) | exact HB.out)))); have n1_ := Aside0.mk (below_step (by repeat (first | (with_reducible first | exact HB.out | apply below_alloc | apply pw_below_drewN | apply below_drew1) | exact HB.out)) hb); clear HB; have HO287 := n0_; have HB := n1_; clear n0_ n1_; (try clear hb); (try clear hb2); (try clear hk); (try clear hi); (try clear ho0)) | ((with_reducible refine gate_callee (f := 27) rfl ?_); refine goesL_ (some 31) rfl rfl Try.func27 (by kernel_rfl) rfl #[.string a1] rfl (by (try simp only [List.map_toArray, List.map_cons, List.map_nil]); first | done | rfl | (simp only [List.length_drop, List.length_take]; rfl)) ?_; (with_reducible refine (labels_MayValue.calls a1 false _ A16.out).mono ?_); rintro e w' ⟨rfl, ⟨nd, rfl⟩⟩; refine ⟨_, rfl, ?_⟩; obtain ⟨Ao36, co36, eo36⟩ := Kd.R_slice HO287.out; subst eo36))
                      go_ret
                      exact ⟨by first | rfl | (simp [errW_none, errW_some] <;> rfl) | (simp only [Opn.bne_nil, Opn.beq_nil]; done) | (simp [Opn.bne_nil, Opn.beq_nil]; done) | (simp [*, errW_none, errW_some] <;> rfl), by repeat (first | (with_reducible first | exact HB.out | apply below_alloc | apply pw_below_drewN | apply below_drew1) | exact HB.out)⟩
                    · rw [if_neg c33] at H
                      have c33b0 : (t285 == 70) = false := beq_eq_false_iff_ne.mpr c33
                      have c33b1 : (t285 != 70) = true := bne_iff_ne.mpr c33
                      obtain rfl := Option.some.inj H
                      go_wp2_with (first | ((with_reducible refine gate_callee (f := 29) rfl ?_); refine goesL_ (some 23) rfl rfl Try.func29 (by kernel_rfl) rfl #[.string a1] rfl (by (try simp only [List.map_toArray, List.map_cons, List.map_nil]); first | done | rfl | (simp only [List.length_drop, List.length_take]; rfl)) ?_; (with_reducible refine (labels_Quote.calls a1 t282 _ A12.out).mono ?_); rintro e w37 ⟨rfl, hb⟩; refine ⟨_, rfl, ?_⟩; have n0_ := Aside0.mk (below_step (by repeat (first | (with_reducible first | exact HB.out | apply below_alloc | apply pw_below_drewN | apply below_drew1) | exact HB.out)) hb); clear HB; have HB := n0_; clear n0_; (try clear hb); (try clear hb2); (try clear hk); (try clear hi)) | ((with_reducible refine gate_callee (f := 16) rfl ?_); refine goesL_ (some 26) rfl rfl Try.func16 (by kernel_rfl) rfl #[.string (((((⟨#[123]⟩ : ByteArray) ++ a0) ++ (⟨#[61]⟩ : ByteArray)) ++ t282) ++ (⟨#[125]⟩ : ByteArray))] rfl (by (try simp only [List.map_toArray, List.map_cons, List.map_nil]); first | done | rfl | (simp only [List.length_drop, List.length_take]; rfl)) ?_; (with_reducible refine (labels_Parse.calls kj4 (((((⟨#[123]⟩ : ByteArray) ++ a0) ++ (⟨#[61]⟩ : ByteArray)) ++ t282) ++ (⟨#[125]⟩ : ByteArray)) t283 t284 t285 _ A15.out).mono ?_); rintro e w38 ⟨v286, rfl, ho0, hb⟩; refine ⟨_, rfl, ?_⟩; have n0_ := Aside0.mk (Kd.R_lower ho0 (below_size (by repeat (first | (with_reducible first | exact HB.out | apply below_alloc | apply pw_below_drewN | apply below_drew1) | exact HB.out)))); have n1_ := Aside0.mk (below_step (by repeat (first | (with_reducible first | exact HB.out | apply below_alloc | apply pw_below_drewN | apply below_drew1) | exact HB.out)) hb); clear HB; have HO287 := n0_; have HB := n1_; clear n0_ n1_; (try clear hb); (try clear hb2); (try clear hk); (try clear hi); (try clear ho0)) | ((with_reducible refine gate_callee (f := 27) rfl ?_); refine goesL_ (some 31) rfl rfl Try.func27 (by kernel_rfl) rfl #[.string a1] rfl (by (try simp only [List.map_toArray, List.map_cons, List.map_nil]); first | done | rfl | (simp only [List.length_drop, List.length_take]; rfl)) ?_; (with_reducible refine (labels_MayValue.calls a1 false _ A16.out).mono ?_); rintro e w' ⟨rfl, ⟨nd, rfl⟩⟩; refine ⟨_, rfl, ?_⟩))
                      go_ret
                      exact ⟨by first | rfl | (simp [errW_none, errW_some] <;> rfl) | (simp only [Opn.bne_nil, Opn.beq_nil]; done) | (simp [Opn.bne_nil, Opn.beq_nil]; done) | (simp [*, errW_none, errW_some] <;> rfl), by repeat (first | (with_reducible first | exact HB.out | apply below_alloc | apply pw_below_drewN | apply below_drew1) | exact HB.out)⟩
                · rw [if_neg c14] at H
                  exact absurd H (by simp)
              · rw [if_neg c13] at H
                exact absurd H (by simp)
            · rw [if_neg c11] at H
              exact absurd H (by simp)
          · rw [if_neg c10] at H
            exact absurd H (by simp)
  · replace c4 := Bool.eq_false_iff.mpr c4
    subst c4
    have H1 : (some false) = some r := by rw [if_neg (show ¬ (false = true) by decide)] at H; exact H
    clear H
    have H := H1
    clear H1
    obtain rfl := Option.some.inj H
    go_enter Try.func9, Try.ntmps9
    go_wp2_with (first | ((with_reducible refine gate_callee (f := 31) rfl ?_); refine goesL_ (some 8) rfl rfl Try.func31 (by kernel_rfl) rfl #[] rfl (by (try simp only [List.map_toArray, List.map_cons, List.map_nil]); first | done | rfl | (simp only [List.length_drop, List.length_take]; rfl)) ?_; (with_reducible refine (tocsinlaw07_awake.calls k  false _ A3.out).mono ?_); rintro e w39 ⟨rfl, hb⟩; refine ⟨_, rfl, ?_⟩; have n0_ := Aside0.mk (below_step (by repeat (first | (with_reducible first | exact HB.out | apply below_alloc | apply pw_below_drewN | apply below_drew1) | exact HB.out)) hb); clear HB; have HB := n0_; clear n0_; (try clear hb); (try clear hb2); (try clear hk); (try clear hi)))
    go_ret
    exact ⟨by first | rfl | (simp [errW_none, errW_some] <;> rfl) | (simp only [Opn.bne_nil, Opn.beq_nil]; done) | (simp [Opn.bne_nil, Opn.beq_nil]; done) | (simp [*, errW_none, errW_some] <;> rfl), by repeat (first | (with_reducible first | exact HB.out | apply below_alloc | apply pw_below_drewN | apply below_drew1) | exact HB.out)⟩

/-- THE ONE PURE STATEMENT of tocsinlaw07_LabelsQuote: yours. -/
def tocsinlaw07_LabelsQuote.Pure : Prop := ∀ (a0 : ByteArray) (a1 : ByteArray), a0.size ≤ 140737488351232 → a1.size ≤ 140737488351232 → ∃ k, tocsinlaw07_LabelsQuote.f k a0 a1 = some true
theorem tocsinlaw07_LabelsQuote.walk (P : tocsinlaw07_LabelsQuote.Pure) (a0 : ByteArray) (a1 : ByteArray) (w : World) (w0 : a0.size ≤ 140737488351232) (w1 : a1.size ≤ 140737488351232) :
    Calls Try.prog 9 #[.string a0, .string a1] w fun e w' => e = .returned (.bool true) ∧ Below w.heap.size w w' := by
  obtain ⟨k, h⟩ := P a0 a1 w0 w1
  refine (tocsinlaw07_LabelsQuote.calls k a0 a1 true w h).mono ?_
  rintro e w' ⟨rfl, hd⟩
  exact ⟨rfl, hd⟩

end Go.Proofs.Ytiicfejaoilfcaa.Q

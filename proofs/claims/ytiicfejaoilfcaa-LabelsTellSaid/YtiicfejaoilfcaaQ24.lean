/- Functions of the program as plain Lean functions, each with the proof that its call comes to just these answers: written by a program of this session (wip/tools/printg.py over the kit's print) for this claim. -/
import Derived.Test.YtiicfejaoilfcaaQ0
import Derived.Test.YtiicfejaoilfcaaQ2
import Derived.Test.YtiicfejaoilfcaaQ3
import Derived.Test.YtiicfejaoilfcaaQ7
import Derived.Test.YtiicfejaoilfcaaQ8
import Derived.Test.YtiicfejaoilfcaaQ9
import Derived.Test.YtiicfejaoilfcaaQ12
import Derived.Test.YtiicfejaoilfcaaQ13
import Derived.Test.YtiicfejaoilfcaaQ17
import Derived.Test.YtiicfejaoilfcaaQ19
import Derived.Test.YtiicfejaoilfcaaQ20
import Derived.Test.YtiicfejaoilfcaaQ21
import Derived.Test.YtiicfejaoilfcaaQ22
import Derived.Test.YtiicfejaoilfcaaQ23
namespace Go.Proofs.Ytiicfejaoilfcaa.Q
open Go.RowKit Go.Proofs.YtiicfejaoilfcaaW.PrintWords Go.Proofs.YtiicfejaoilfcaaW.PrintLast Go.Proofs.YtiicfejaoilfcaaW.PrintMore
attribute [local go_sem] Opn.str_leq Opn.str_gtr Opn.str_geq max2_int min2_int max_two min_two max_three min_three max_four min_four   -- for this text's walks alone
set_option linter.unusedVariables false
set_option linter.unusedSimpArgs false

/-! ### tocsinlaw07_LabelsTell: function 5 -/
mutual
def tocsinlaw07_LabelsTell.j0 : Nat → List (S31) → ByteArray → ByteArray → Bool → Option (Bool)
  | 0, _, _, _, _ => none
  | k + 1, x0, x1, x2, x19 => if x19 = true then (some true) else ((tocsinref07_Copy.f x0).bind fun t193 => ((labels_May.f k t193).bind fun t196 => ((tocsinref07_May.f k x0).bind fun t197 => (if (t196 != t197) = true then (tocsinlaw07_LabelsTell.j1 k x0 x1 x2 t193 true) else ((labels_Print.f k t193).bind fun t198 => ((tocsinref07_Print.f k x0).bind fun t199 => (if t198.toList = t199.toList then ((labels_Value.f k t193 x1).bind fun t200 => ((tocsinref07_Value.f k x0 x1).bind fun t201 => (tocsinlaw07_LabelsTell.j1 k x0 x1 x2 t193 (t200.toList != t201.toList)))) else (tocsinlaw07_LabelsTell.j1 k x0 x1 x2 t193 true))))))))
def tocsinlaw07_LabelsTell.j1 : Nat → List (S31) → ByteArray → ByteArray → List (S31) → Bool → Option (Bool)
  | 0, _, _, _, _, _ => none
  | k + 1, x0, x1, x2, x7, x42 => if x42 = true then (some false) else ((labels_MayName.f x1).bind fun t202 => ((tocsinref07_MayName.f k x1).bind fun t203 => (if (t202 == t203) = true then ((labels_MayValue.f x2).bind fun t204 => ((tocsinref07_MayValue.f k x2).bind fun t205 => (if (t204 == t205) = true then ((labels_Quote.f x2).bind fun t206 => ((tocsinref07_Quote.f k x2).bind fun t207 => (if t206.toList = t207.toList then ((tocsinref07_Same.f k x7 x0).bind fun t208 => (some t208)) else (some false)))) else (some false)))) else (some false))))
end
def tocsinlaw07_LabelsTell.f (k : Nat) (l0 : List (S31)) (a1 : ByteArray) (a2 : ByteArray) : Option (Bool) := (tocsinlaw07_great.f k l0).bind fun t192 => (if t192 = true then (tocsinlaw07_LabelsTell.j0 k l0 a1 a2 true) else (if (a1.size : Int) > 5000 then (tocsinlaw07_LabelsTell.j0 k l0 a1 a2 true) else (tocsinlaw07_LabelsTell.j0 k l0 a1 a2 (decide ((a2.size : Int) > 5000)))))
theorem tocsinlaw07_LabelsTell.mono_l : ∀ k, (∀ y0 y1 y2 y3, LeO (tocsinlaw07_LabelsTell.j0 k y0 y1 y2 y3) (tocsinlaw07_LabelsTell.j0 (k + 1) y0 y1 y2 y3)) ∧ (∀ y0 y1 y2 y3 y4, LeO (tocsinlaw07_LabelsTell.j1 k y0 y1 y2 y3 y4) (tocsinlaw07_LabelsTell.j1 (k + 1) y0 y1 y2 y3 y4))
  | 0 => ⟨fun _ _ _ _ r h => by simp [tocsinlaw07_LabelsTell.j0] at h, fun _ _ _ _ _ r h => by simp [tocsinlaw07_LabelsTell.j1] at h⟩
  | k + 1 => by
    obtain ⟨ih0, ih1⟩ := tocsinlaw07_LabelsTell.mono_l k
    refine ⟨?_, ?_⟩
    · intro y0 y1 y2 y3
      unfold tocsinlaw07_LabelsTell.j0
      repeat' first
      | (with_reducible exact ih0 _ _ _ _)
      | (with_reducible exact ih1 _ _ _ _ _)
      | (with_reducible exact labels_May.mono _ _)
      | (with_reducible exact labels_Print.mono _ _)
      | (with_reducible exact labels_Value.mono _ _ _)
      | (with_reducible exact tocsinlaw07_great.mono _ _)
      | (with_reducible exact tocsinref07_May.mono _ _)
      | (with_reducible exact tocsinref07_MayName.mono _ _)
      | (with_reducible exact tocsinref07_MayValue.mono _ _)
      | (with_reducible exact tocsinref07_Print.mono _ _)
      | (with_reducible exact tocsinref07_Quote.mono _ _)
      | (with_reducible exact tocsinref07_Same.mono _ _ _)
      | (with_reducible exact tocsinref07_Value.mono _ _ _)
      | (with_reducible exact LeO.refl _)
      | (with_reducible exact LeO.none _)
      | (with_reducible refine LeO.ite ?_ ?_)
      | (with_reducible refine LeO.bind ?_ (fun _ => ?_))
      | exact ih0 _ _ _ _
      | exact ih1 _ _ _ _ _
      | exact labels_May.mono _ _
      | exact labels_Print.mono _ _
      | exact labels_Value.mono _ _ _
      | exact tocsinlaw07_great.mono _ _
      | exact tocsinref07_May.mono _ _
      | exact tocsinref07_MayName.mono _ _
      | exact tocsinref07_MayValue.mono _ _
      | exact tocsinref07_Print.mono _ _
      | exact tocsinref07_Quote.mono _ _
      | exact tocsinref07_Same.mono _ _ _
      | exact tocsinref07_Value.mono _ _ _
      | exact LeO.none _
      | refine LeO.ite ?_ ?_
      | refine LeO.bind ?_ (fun _ => ?_)
    · intro y0 y1 y2 y3 y4
      unfold tocsinlaw07_LabelsTell.j1
      repeat' first
      | (with_reducible exact ih0 _ _ _ _)
      | (with_reducible exact ih1 _ _ _ _ _)
      | (with_reducible exact labels_May.mono _ _)
      | (with_reducible exact labels_Print.mono _ _)
      | (with_reducible exact labels_Value.mono _ _ _)
      | (with_reducible exact tocsinlaw07_great.mono _ _)
      | (with_reducible exact tocsinref07_May.mono _ _)
      | (with_reducible exact tocsinref07_MayName.mono _ _)
      | (with_reducible exact tocsinref07_MayValue.mono _ _)
      | (with_reducible exact tocsinref07_Print.mono _ _)
      | (with_reducible exact tocsinref07_Quote.mono _ _)
      | (with_reducible exact tocsinref07_Same.mono _ _ _)
      | (with_reducible exact tocsinref07_Value.mono _ _ _)
      | (with_reducible exact LeO.refl _)
      | (with_reducible exact LeO.none _)
      | (with_reducible refine LeO.ite ?_ ?_)
      | (with_reducible refine LeO.bind ?_ (fun _ => ?_))
      | exact ih0 _ _ _ _
      | exact ih1 _ _ _ _ _
      | exact labels_May.mono _ _
      | exact labels_Print.mono _ _
      | exact labels_Value.mono _ _ _
      | exact tocsinlaw07_great.mono _ _
      | exact tocsinref07_May.mono _ _
      | exact tocsinref07_MayName.mono _ _
      | exact tocsinref07_MayValue.mono _ _
      | exact tocsinref07_Print.mono _ _
      | exact tocsinref07_Quote.mono _ _
      | exact tocsinref07_Same.mono _ _ _
      | exact tocsinref07_Value.mono _ _ _
      | exact LeO.none _
      | refine LeO.ite ?_ ?_
      | refine LeO.bind ?_ (fun _ => ?_)
theorem tocsinlaw07_LabelsTell.mono : ∀ a0 a1 a2 k, LeO (tocsinlaw07_LabelsTell.f k a0 a1 a2) (tocsinlaw07_LabelsTell.f (k + 1) a0 a1 a2) := by
  intro a0 a1 a2 k
  obtain ⟨ih0, ih1⟩ := tocsinlaw07_LabelsTell.mono_l k
  unfold tocsinlaw07_LabelsTell.f
  repeat' first
      | (with_reducible exact ih0 _ _ _ _)
      | (with_reducible exact ih1 _ _ _ _ _)
      | (with_reducible exact labels_May.mono _ _)
      | (with_reducible exact labels_Print.mono _ _)
      | (with_reducible exact labels_Value.mono _ _ _)
      | (with_reducible exact tocsinlaw07_great.mono _ _)
      | (with_reducible exact tocsinref07_May.mono _ _)
      | (with_reducible exact tocsinref07_MayName.mono _ _)
      | (with_reducible exact tocsinref07_MayValue.mono _ _)
      | (with_reducible exact tocsinref07_Print.mono _ _)
      | (with_reducible exact tocsinref07_Quote.mono _ _)
      | (with_reducible exact tocsinref07_Same.mono _ _ _)
      | (with_reducible exact tocsinref07_Value.mono _ _ _)
      | (with_reducible exact LeO.refl _)
      | (with_reducible exact LeO.none _)
      | (with_reducible refine LeO.ite ?_ ?_)
      | (with_reducible refine LeO.bind ?_ (fun _ => ?_))
      | exact ih0 _ _ _ _
      | exact ih1 _ _ _ _ _
      | exact labels_May.mono _ _
      | exact labels_Print.mono _ _
      | exact labels_Value.mono _ _ _
      | exact tocsinlaw07_great.mono _ _
      | exact tocsinref07_May.mono _ _
      | exact tocsinref07_MayName.mono _ _
      | exact tocsinref07_MayValue.mono _ _
      | exact tocsinref07_Print.mono _ _
      | exact tocsinref07_Quote.mono _ _
      | exact tocsinref07_Same.mono _ _ _
      | exact tocsinref07_Value.mono _ _ _
      | exact LeO.none _
      | refine LeO.ite ?_ ?_
      | refine LeO.bind ?_ (fun _ => ?_)
set_option maxHeartbeats 8000000 in
set_option maxRecDepth 100000 in
theorem tocsinlaw07_LabelsTell.calls (k : Nat) (A0 : Option Addr) (c0 : Nat) (l0 : List (S31)) (a1 : ByteArray) (a2 : ByteArray) (r : Bool) (w : World) (hr0 : Kd.C k31 w A0 l0.length l0) (hc0 : l0.length ≤ c0) (h : tocsinlaw07_LabelsTell.f k l0 a1 a2 = some r) :
    Calls Try.prog 5 #[.slice A0 l0.length c0, .string a1, .string a2] w fun e w' => e = .returned (.bool r) ∧ Below w.heap.size w w' := by
  have HR0 := Aside0.mk hr0
  have HC0 := Aside0.mk hc0
  clear hr0 hc0
  have HB := Aside0.mk (Below.refl w.heap.size w)
  have H : ((tocsinlaw07_great.f k l0).bind fun t192 => (if t192 = true then (tocsinlaw07_LabelsTell.j0 k l0 a1 a2 true) else (if (a1.size : Int) > 5000 then (tocsinlaw07_LabelsTell.j0 k l0 a1 a2 true) else (tocsinlaw07_LabelsTell.j0 k l0 a1 a2 (decide ((a2.size : Int) > 5000)))))) = some r := h
  clear h
  have HC4 := Aside0.mk H
  clear H
  go_enter Try.func5, Try.ntmps5
  go_upto_region 1 with (fail)
  go_cut [19] (fun v19 wc => ∃ (kq : Nat) (x19_3 : Bool), v19 = .bool x19_3 ∧ Aside0 (tocsinlaw07_LabelsTell.j0 kq l0 a1 a2 x19_3 = some r) ∧ Aside0 (kq ≤ k) ∧ Aside0 (Below w.heap.size w wc))
  case first =>
    have H := HC4.out
    clear HC4
    replace H := Option.bind_eq_some_iff.mp H
    obtain ⟨t192, A50, H⟩ := H
    replace H : (if t192 = true then (tocsinlaw07_LabelsTell.j0 k l0 a1 a2 true) else (if (a1.size : Int) > 5000 then (tocsinlaw07_LabelsTell.j0 k l0 a1 a2 true) else (tocsinlaw07_LabelsTell.j0 k l0 a1 a2 (decide ((a2.size : Int) > 5000))))) = some r := H
    have A5 := Aside0.mk A50
    clear A50
    by_cases c6 : t192 = true
    · subst c6
      have H1 : (tocsinlaw07_LabelsTell.j0 k l0 a1 a2 true) = some r := by rw [if_pos rfl] at H; exact H
      clear H
      have H := H1
      clear H1
      have H' := Aside0.mk H
      clear H
      go_wp2_with (first | ((with_reducible refine gate_callee (f := 12) rfl ?_); refine goesL_ (some 9) rfl rfl Try.func12 (by kernel_rfl) rfl #[.slice A0 l0.length c0] rfl (by (try simp only [List.map_toArray, List.map_cons, List.map_nil]); first | done | rfl | (simp only [List.length_drop, List.length_take]; rfl)) ?_; (with_reducible refine (tocsinlaw07_great.calls k _ _ l0 true _ ?side1 ?side2 A5.out).mono ?_); (case side1 => repeat (first | exact (Kd.C_below HR0.out HB.out) | (with_reducible refine Kd.C_alloc ?_ _) | (with_reducible refine Kd.C_drewN ?_ _) | (with_reducible refine Kd.C_drew ?_))); (case side2 => exact HC0.out); rintro e w' ⟨rfl, ⟨nd, rfl⟩⟩; refine ⟨_, rfl, ?_⟩))
      go_meet
      case rel => exact ⟨_, (true), (by first | rfl | (simp; done) | (simp [*]; done)), H', ⟨by first | omega | exact Nat.le_refl _⟩, ⟨by repeat (first | (with_reducible first | exact HB.out | apply below_alloc | apply pw_below_drewN | apply below_drew1) | exact HB.out)⟩⟩
    · replace c6 := Bool.eq_false_iff.mpr c6
      subst c6
      have H1 : (if (a1.size : Int) > 5000 then (tocsinlaw07_LabelsTell.j0 k l0 a1 a2 true) else (tocsinlaw07_LabelsTell.j0 k l0 a1 a2 (decide ((a2.size : Int) > 5000)))) = some r := by rw [if_neg (show ¬ (false = true) by decide)] at H; exact H
      clear H
      have H := H1
      clear H1
      by_cases c7 : (a1.size : Int) > 5000
      · rw [if_pos c7] at H
        have c7b0 : decide (5000 < (a1.size : Int)) = true := decide_eq_true c7
        have c7b1 : decide (5000 < a1.size) = true := decide_eq_true (by omega)
        clear c7
        (first | rw [c7b0] | (simp only [i64_w, i32_w]; rw [c7b0]) | skip)
        have H' := Aside0.mk H
        clear H
        go_wp2_with (first | ((with_reducible refine gate_callee (f := 12) rfl ?_); refine goesL_ (some 9) rfl rfl Try.func12 (by kernel_rfl) rfl #[.slice A0 l0.length c0] rfl (by (try simp only [List.map_toArray, List.map_cons, List.map_nil]); first | done | rfl | (simp only [List.length_drop, List.length_take]; rfl)) ?_; (with_reducible refine (tocsinlaw07_great.calls k _ _ l0 false _ ?side1 ?side2 A5.out).mono ?_); (case side1 => repeat (first | exact (Kd.C_below HR0.out HB.out) | (with_reducible refine Kd.C_alloc ?_ _) | (with_reducible refine Kd.C_drewN ?_ _) | (with_reducible refine Kd.C_drew ?_))); (case side2 => exact HC0.out); rintro e w' ⟨rfl, ⟨nd, rfl⟩⟩; refine ⟨_, rfl, ?_⟩))
        go_meet
        case rel => exact ⟨_, (true), (by first | rfl | (simp; done) | (simp [*]; done)), H', ⟨by first | omega | exact Nat.le_refl _⟩, ⟨by repeat (first | (with_reducible first | exact HB.out | apply below_alloc | apply pw_below_drewN | apply below_drew1) | exact HB.out)⟩⟩
      · rw [if_neg c7] at H
        have c7b0 : decide (5000 < (a1.size : Int)) = false := decide_eq_false c7
        have c7b1 : decide (5000 < a1.size) = false := decide_eq_false (by omega)
        clear c7
        (first | rw [c7b0] | (simp only [i64_w, i32_w]; rw [c7b0]) | skip)
        have H' := Aside0.mk H
        clear H
        go_wp2_with (first | ((with_reducible refine gate_callee (f := 12) rfl ?_); refine goesL_ (some 9) rfl rfl Try.func12 (by kernel_rfl) rfl #[.slice A0 l0.length c0] rfl (by (try simp only [List.map_toArray, List.map_cons, List.map_nil]); first | done | rfl | (simp only [List.length_drop, List.length_take]; rfl)) ?_; (with_reducible refine (tocsinlaw07_great.calls k _ _ l0 false _ ?side1 ?side2 A5.out).mono ?_); (case side1 => repeat (first | exact (Kd.C_below HR0.out HB.out) | (with_reducible refine Kd.C_alloc ?_ _) | (with_reducible refine Kd.C_drewN ?_ _) | (with_reducible refine Kd.C_drew ?_))); (case side2 => exact HC0.out); rintro e w' ⟨rfl, ⟨nd, rfl⟩⟩; refine ⟨_, rfl, ?_⟩))
        go_meet
        case rel => exact ⟨_, (decide ((a2.size : Int) > 5000)), (by first | rfl | (simp; done) | (simp [*]; done)), H', ⟨by first | omega | exact Nat.le_refl _⟩, ⟨by repeat (first | (with_reducible first | exact HB.out | apply below_alloc | apply pw_below_drewN | apply below_drew1) | exact HB.out)⟩⟩
  case rest =>
    clear HC4
    try clear c1
    try clear p2
    try clear c5
    try clear c6
    try clear c7
    try clear c7b0
    try clear c7b1
    obtain ⟨kq, x19_3, rfl, HA, HJ3, HB⟩ := hcut
    cases kq with
    | zero => exact absurd HA.out (by simp [tocsinlaw07_LabelsTell.j0])
    | succ kj3 =>
      have H := HA.out
      clear HA
      simp only [tocsinlaw07_LabelsTell.j0] at H
      by_cases c8 : x19_3 = true
      · subst c8
        have H1 : (some true) = some r := by rw [if_pos rfl] at H; exact H
        clear H
        have H := H1
        clear H1
        obtain rfl := Option.some.inj H
        go_wp2
        go_ret
        exact ⟨by first | rfl | (simp [errW_none, errW_some] <;> rfl) | (simp only [Opn.bne_nil, Opn.beq_nil]; done) | (simp [Opn.bne_nil, Opn.beq_nil]; done) | (simp [*, errW_none, errW_some] <;> rfl), by repeat (first | (with_reducible first | exact HB.out | apply below_alloc | apply pw_below_drewN | apply below_drew1) | exact HB.out)⟩
      · replace c8 := Bool.eq_false_iff.mpr c8
        subst c8
        have H1 : ((tocsinref07_Copy.f l0).bind fun t193 => ((labels_May.f kj3 t193).bind fun t196 => ((tocsinref07_May.f kj3 l0).bind fun t197 => (if (t196 != t197) = true then (tocsinlaw07_LabelsTell.j1 kj3 l0 a1 a2 t193 true) else ((labels_Print.f kj3 t193).bind fun t198 => ((tocsinref07_Print.f kj3 l0).bind fun t199 => (if t198.toList = t199.toList then ((labels_Value.f kj3 t193 a1).bind fun t200 => ((tocsinref07_Value.f kj3 l0 a1).bind fun t201 => (tocsinlaw07_LabelsTell.j1 kj3 l0 a1 a2 t193 (t200.toList != t201.toList)))) else (tocsinlaw07_LabelsTell.j1 kj3 l0 a1 a2 t193 true)))))))) = some r := by rw [if_neg (show ¬ (false = true) by decide)] at H; exact H
        clear H
        have H := H1
        clear H1
        replace H := Option.bind_eq_some_iff.mp H
        obtain ⟨t193, A90, H⟩ := H
        replace H : ((labels_May.f kj3 t193).bind fun t196 => ((tocsinref07_May.f kj3 l0).bind fun t197 => (if (t196 != t197) = true then (tocsinlaw07_LabelsTell.j1 kj3 l0 a1 a2 t193 true) else ((labels_Print.f kj3 t193).bind fun t198 => ((tocsinref07_Print.f kj3 l0).bind fun t199 => (if t198.toList = t199.toList then ((labels_Value.f kj3 t193 a1).bind fun t200 => ((tocsinref07_Value.f kj3 l0 a1).bind fun t201 => (tocsinlaw07_LabelsTell.j1 kj3 l0 a1 a2 t193 (t200.toList != t201.toList)))) else (tocsinlaw07_LabelsTell.j1 kj3 l0 a1 a2 t193 true))))))) = some r := H
        have A9 := Aside0.mk A90
        clear A90
        have HC10 := Aside0.mk H
        clear H
        go_upto_region 4 with (first | ((with_reducible refine gate_callee (f := 18) rfl ?_); refine goesL_ (some 21) rfl rfl Try.func18 (by kernel_rfl) rfl #[.slice A0 l0.length c0] rfl (by (try simp only [List.map_toArray, List.map_cons, List.map_nil]); first | done | rfl | (simp only [List.length_drop, List.length_take]; rfl)) ?_; (with_reducible refine (tocsinref07_Copy.calls _ _ l0 t193 _ ?side1 ?side2 A9.out).mono ?_); (case side1 => repeat (first | exact (Kd.C_below HR0.out HB.out) | (with_reducible refine Kd.C_alloc ?_ _) | (with_reducible refine Kd.C_drewN ?_ _) | (with_reducible refine Kd.C_drew ?_))); (case side2 => exact HC0.out); rintro e w11 ⟨v194, rfl, ho0, hb⟩; refine ⟨_, rfl, ?_⟩; have n0_ := Aside0.mk (Kd.R_lower ho0 (below_size (by repeat (first | (with_reducible first | exact HB.out | apply below_alloc | apply pw_below_drewN | apply below_drew1) | exact HB.out)))); have n1_ := Aside0.mk (below_step (by repeat (first | (with_reducible first | exact HB.out | apply below_alloc | apply pw_below_drewN | apply below_drew1) | exact HB.out)) hb); clear HB; have HO195 := n0_; have HB := n1_; clear n0_ n1_; (try clear hb); (try clear hb2); (try clear hk); (try clear hi); (try clear ho0)))
        (try simp only [Act.put, List.setIfInBounds_toArray, List.set_cons_zero, List.set_cons_succ])
        go_cut [42] (fun v42 wc => ∃ (kq : Nat) (x42_9 : Bool), v42 = .bool x42_9 ∧ Aside0 (tocsinlaw07_LabelsTell.j1 kq l0 a1 a2 t193 x42_9 = some r) ∧ Aside0 (kq ≤ kj3) ∧ Aside0 (Kd.R k31 31 wc w.heap.size (fun _ => True) v194 t193) ∧ Aside0 (Below w.heap.size w wc))
        case first =>
          have H := HC10.out
          clear HC10
          replace H := Option.bind_eq_some_iff.mp H
          obtain ⟨t196, A120, H⟩ := H
          replace H : ((tocsinref07_May.f kj3 l0).bind fun t197 => (if (t196 != t197) = true then (tocsinlaw07_LabelsTell.j1 kj3 l0 a1 a2 t193 true) else ((labels_Print.f kj3 t193).bind fun t198 => ((tocsinref07_Print.f kj3 l0).bind fun t199 => (if t198.toList = t199.toList then ((labels_Value.f kj3 t193 a1).bind fun t200 => ((tocsinref07_Value.f kj3 l0 a1).bind fun t201 => (tocsinlaw07_LabelsTell.j1 kj3 l0 a1 a2 t193 (t200.toList != t201.toList)))) else (tocsinlaw07_LabelsTell.j1 kj3 l0 a1 a2 t193 true)))))) = some r := H
          have A12 := Aside0.mk A120
          clear A120
          replace H := Option.bind_eq_some_iff.mp H
          obtain ⟨t197, A130, H⟩ := H
          replace H : (if (t196 != t197) = true then (tocsinlaw07_LabelsTell.j1 kj3 l0 a1 a2 t193 true) else ((labels_Print.f kj3 t193).bind fun t198 => ((tocsinref07_Print.f kj3 l0).bind fun t199 => (if t198.toList = t199.toList then ((labels_Value.f kj3 t193 a1).bind fun t200 => ((tocsinref07_Value.f kj3 l0 a1).bind fun t201 => (tocsinlaw07_LabelsTell.j1 kj3 l0 a1 a2 t193 (t200.toList != t201.toList)))) else (tocsinlaw07_LabelsTell.j1 kj3 l0 a1 a2 t193 true))))) = some r := H
          have A13 := Aside0.mk A130
          clear A130
          by_cases c14 : (t196 != t197) = true
          · rw [if_pos c14] at H
            have c14b0 : (t196 != t197) = true := c14
            (try (have c14b1 : decide (t196 = t197) = false := by simpa using c14))
            (try (have c14b2 : (t196 == t197) = false := by simpa using c14))
            (try (have c14b3 : ¬ (t196 = t197) := by simpa using c14))
            clear c14
            (first | rw [c14b0] | (simp only [i64_w, i32_w]; rw [c14b0]) | skip)
            have H' := Aside0.mk H
            clear H
            obtain ⟨Ao15, co15, eo15⟩ := Kd.R_slice HO195.out
            subst eo15
            go_wp2_with (first | ((with_reducible refine gate_callee (f := 19) rfl ?_); refine goesL_ (some 23) rfl rfl Try.func19 (by kernel_rfl) rfl #[.slice Ao15 t193.length co15] rfl (by (try simp only [List.map_toArray, List.map_cons, List.map_nil]); first | done | rfl | (simp only [List.length_drop, List.length_take]; rfl)) ?_; (with_reducible refine (labels_May.calls kj3 _ _ t193 t196 _ ?side1 ?side2 A12.out).mono ?_); (case side1 => repeat (first | exact (Kd.R_reads' HO195.out).2.2 | (with_reducible refine Kd.C_alloc ?_ _) | (with_reducible refine Kd.C_drewN ?_ _) | (with_reducible refine Kd.C_drew ?_))); (case side2 => exact (Kd.R_reads' HO195.out).2.1); rintro e w16 ⟨rfl, hb⟩; refine ⟨_, rfl, ?_⟩; have n0_ := Aside0.mk (Kd.R_below (by (with_reducible repeat (first | apply Kd.R_alloc | apply Kd.R_drewN | apply Kd.R_drew)); exact HO195.out) hb); have n1_ := Aside0.mk (below_step (by repeat (first | (with_reducible first | exact HB.out | apply below_alloc | apply pw_below_drewN | apply below_drew1) | exact HB.out)) hb); clear HO195; clear HB; have HO195 := n0_; have HB := n1_; clear n0_ n1_; (try clear hb); (try clear hb2); (try clear hk); (try clear hi)) | ((with_reducible refine gate_callee (f := 20) rfl ?_); refine goesL_ (some 25) rfl rfl Try.func20 (by kernel_rfl) rfl #[.slice A0 l0.length c0] rfl (by (try simp only [List.map_toArray, List.map_cons, List.map_nil]); first | done | rfl | (simp only [List.length_drop, List.length_take]; rfl)) ?_; (with_reducible refine (tocsinref07_May.calls kj3 _ _ l0 t197 _ ?side1 ?side2 A13.out).mono ?_); (case side1 => repeat (first | exact (Kd.C_below HR0.out HB.out) | (with_reducible refine Kd.C_alloc ?_ _) | (with_reducible refine Kd.C_drewN ?_ _) | (with_reducible refine Kd.C_drew ?_))); (case side2 => exact HC0.out); rintro e w17 ⟨rfl, hb⟩; refine ⟨_, rfl, ?_⟩; have n0_ := Aside0.mk (Kd.R_below (by (with_reducible repeat (first | apply Kd.R_alloc | apply Kd.R_drewN | apply Kd.R_drew)); exact HO195.out) hb); have n1_ := Aside0.mk (below_step (by repeat (first | (with_reducible first | exact HB.out | apply below_alloc | apply pw_below_drewN | apply below_drew1) | exact HB.out)) hb); clear HO195; clear HB; have HO195 := n0_; have HB := n1_; clear n0_ n1_; (try clear hb); (try clear hb2); (try clear hk); (try clear hi)))
            go_meet
            case rel => exact ⟨_, (true), (by first | rfl | (simp; done) | (simp [*]; done)), H', ⟨by have := HJ3.out; first | omega | exact Nat.le_refl _⟩, ⟨by (with_reducible repeat (first | apply Kd.R_alloc | apply Kd.R_drewN | apply Kd.R_drew)); exact HO195.out⟩, ⟨by repeat (first | (with_reducible first | exact HB.out | apply below_alloc | apply pw_below_drewN | apply below_drew1) | exact HB.out)⟩⟩
          · rw [if_neg c14] at H
            have c14b0 : (t196 != t197) = false := by simpa using c14
            (try (have c14b1 : decide (t196 = t197) = true := by simpa using c14))
            (try (have c14b2 : (t196 == t197) = true := by simpa using c14))
            clear c14
            (first | rw [c14b0] | (simp only [i64_w, i32_w]; rw [c14b0]) | skip)
            replace H := Option.bind_eq_some_iff.mp H
            obtain ⟨t198, A180, H⟩ := H
            replace H : ((tocsinref07_Print.f kj3 l0).bind fun t199 => (if t198.toList = t199.toList then ((labels_Value.f kj3 t193 a1).bind fun t200 => ((tocsinref07_Value.f kj3 l0 a1).bind fun t201 => (tocsinlaw07_LabelsTell.j1 kj3 l0 a1 a2 t193 (t200.toList != t201.toList)))) else (tocsinlaw07_LabelsTell.j1 kj3 l0 a1 a2 t193 true))) = some r := H
            have A18 := Aside0.mk A180
            clear A180
            replace H := Option.bind_eq_some_iff.mp H
            obtain ⟨t199, A190, H⟩ := H
            replace H : (if t198.toList = t199.toList then ((labels_Value.f kj3 t193 a1).bind fun t200 => ((tocsinref07_Value.f kj3 l0 a1).bind fun t201 => (tocsinlaw07_LabelsTell.j1 kj3 l0 a1 a2 t193 (t200.toList != t201.toList)))) else (tocsinlaw07_LabelsTell.j1 kj3 l0 a1 a2 t193 true)) = some r := H
            have A19 := Aside0.mk A190
            clear A190
            by_cases c20 : t198.toList = t199.toList
            · rw [if_pos c20] at H
              have c20b0 : (t198.toList == t199.toList) = true := beq_iff_eq.mpr c20
              have c20b1 : (t198.toList != t199.toList) = false := bne_eq_false_iff_eq.mpr c20
              clear c20
              replace H := Option.bind_eq_some_iff.mp H
              obtain ⟨t200, A210, H⟩ := H
              replace H : ((tocsinref07_Value.f kj3 l0 a1).bind fun t201 => (tocsinlaw07_LabelsTell.j1 kj3 l0 a1 a2 t193 (t200.toList != t201.toList))) = some r := H
              have A21 := Aside0.mk A210
              clear A210
              replace H := Option.bind_eq_some_iff.mp H
              obtain ⟨t201, A220, H⟩ := H
              replace H : (tocsinlaw07_LabelsTell.j1 kj3 l0 a1 a2 t193 (t200.toList != t201.toList)) = some r := H
              have A22 := Aside0.mk A220
              clear A220
              have H' := Aside0.mk H
              clear H
              obtain ⟨Ao23, co23, eo23⟩ := Kd.R_slice HO195.out
              subst eo23
              go_wp2_with (first | ((with_reducible refine gate_callee (f := 19) rfl ?_); refine goesL_ (some 23) rfl rfl Try.func19 (by kernel_rfl) rfl #[.slice Ao23 t193.length co23] rfl (by (try simp only [List.map_toArray, List.map_cons, List.map_nil]); first | done | rfl | (simp only [List.length_drop, List.length_take]; rfl)) ?_; (with_reducible refine (labels_May.calls kj3 _ _ t193 t196 _ ?side1 ?side2 A12.out).mono ?_); (case side1 => repeat (first | exact (Kd.R_reads' HO195.out).2.2 | (with_reducible refine Kd.C_alloc ?_ _) | (with_reducible refine Kd.C_drewN ?_ _) | (with_reducible refine Kd.C_drew ?_))); (case side2 => exact (Kd.R_reads' HO195.out).2.1); rintro e w24 ⟨rfl, hb⟩; refine ⟨_, rfl, ?_⟩; have n0_ := Aside0.mk (Kd.R_below (by (with_reducible repeat (first | apply Kd.R_alloc | apply Kd.R_drewN | apply Kd.R_drew)); exact HO195.out) hb); have n1_ := Aside0.mk (below_step (by repeat (first | (with_reducible first | exact HB.out | apply below_alloc | apply pw_below_drewN | apply below_drew1) | exact HB.out)) hb); clear HO195; clear HB; have HO195 := n0_; have HB := n1_; clear n0_ n1_; (try clear hb); (try clear hb2); (try clear hk); (try clear hi)) | ((with_reducible refine gate_callee (f := 20) rfl ?_); refine goesL_ (some 25) rfl rfl Try.func20 (by kernel_rfl) rfl #[.slice A0 l0.length c0] rfl (by (try simp only [List.map_toArray, List.map_cons, List.map_nil]); first | done | rfl | (simp only [List.length_drop, List.length_take]; rfl)) ?_; (with_reducible refine (tocsinref07_May.calls kj3 _ _ l0 t197 _ ?side1 ?side2 A13.out).mono ?_); (case side1 => repeat (first | exact (Kd.C_below HR0.out HB.out) | (with_reducible refine Kd.C_alloc ?_ _) | (with_reducible refine Kd.C_drewN ?_ _) | (with_reducible refine Kd.C_drew ?_))); (case side2 => exact HC0.out); rintro e w25 ⟨rfl, hb⟩; refine ⟨_, rfl, ?_⟩; have n0_ := Aside0.mk (Kd.R_below (by (with_reducible repeat (first | apply Kd.R_alloc | apply Kd.R_drewN | apply Kd.R_drew)); exact HO195.out) hb); have n1_ := Aside0.mk (below_step (by repeat (first | (with_reducible first | exact HB.out | apply below_alloc | apply pw_below_drewN | apply below_drew1) | exact HB.out)) hb); clear HO195; clear HB; have HO195 := n0_; have HB := n1_; clear n0_ n1_; (try clear hb); (try clear hb2); (try clear hk); (try clear hi)) | (go_at_call 21; (with_reducible refine (labels_Print.calls kj3 _ _ t193 t198 _ ?side1 ?side2 A18.out).mono ?_); (case side1 => repeat (first | exact (Kd.R_reads' HO195.out).2.2 | (with_reducible refine Kd.C_alloc ?_ _) | (with_reducible refine Kd.C_drewN ?_ _) | (with_reducible refine Kd.C_drew ?_))); (case side2 => exact (Kd.R_reads' HO195.out).2.1); rintro e w26 ⟨rfl, hb⟩; have n0_ := Aside0.mk (Kd.R_below (by (with_reducible repeat (first | apply Kd.R_alloc | apply Kd.R_drewN | apply Kd.R_drew)); exact HO195.out) hb); have n1_ := Aside0.mk (below_step (by repeat (first | (with_reducible first | exact HB.out | apply below_alloc | apply pw_below_drewN | apply below_drew1) | exact HB.out)) hb); clear HO195; clear HB; have HO195 := n0_; have HB := n1_; clear n0_ n1_; (try clear hb); (try clear hb2); (try clear hk); (try clear hi)) | (go_at_call 22; (with_reducible refine (tocsinref07_Print.calls kj3 _ _ l0 t199 _ ?side1 ?side2 A19.out).mono ?_); (case side1 => repeat (first | exact (Kd.C_below HR0.out HB.out) | (with_reducible refine Kd.C_alloc ?_ _) | (with_reducible refine Kd.C_drewN ?_ _) | (with_reducible refine Kd.C_drew ?_))); (case side2 => exact HC0.out); rintro e w' ⟨rfl, ⟨nd, rfl⟩⟩) | (go_at_call 23; (with_reducible refine (labels_Value.calls kj3 _ _ t193 a1 t200 _ ?side1 ?side2 A21.out).mono ?_); (case side1 => repeat (first | exact (Kd.R_reads' HO195.out).2.2 | (with_reducible refine Kd.C_alloc ?_ _) | (with_reducible refine Kd.C_drewN ?_ _) | (with_reducible refine Kd.C_drew ?_))); (case side2 => exact (Kd.R_reads' HO195.out).2.1); rintro e w27 ⟨rfl, hb⟩; have n0_ := Aside0.mk (Kd.R_below (by (with_reducible repeat (first | apply Kd.R_alloc | apply Kd.R_drewN | apply Kd.R_drew)); exact HO195.out) hb); have n1_ := Aside0.mk (below_step (by repeat (first | (with_reducible first | exact HB.out | apply below_alloc | apply pw_below_drewN | apply below_drew1) | exact HB.out)) hb); clear HO195; clear HB; have HO195 := n0_; have HB := n1_; clear n0_ n1_; (try clear hb); (try clear hb2); (try clear hk); (try clear hi)) | (go_at_call 24; (with_reducible refine (tocsinref07_Value.calls kj3 _ _ l0 a1 t201 _ ?side1 ?side2 A22.out).mono ?_); (case side1 => repeat (first | exact (Kd.C_below HR0.out HB.out) | (with_reducible refine Kd.C_alloc ?_ _) | (with_reducible refine Kd.C_drewN ?_ _) | (with_reducible refine Kd.C_drew ?_))); (case side2 => exact HC0.out); rintro e w' ⟨rfl, ⟨nd, rfl⟩⟩))
              go_meet
              case rel => exact ⟨_, ((t200.toList != t201.toList)), (by first | rfl | (simp; done) | (simp [*]; done)), H', ⟨by have := HJ3.out; first | omega | exact Nat.le_refl _⟩, ⟨by (with_reducible repeat (first | apply Kd.R_alloc | apply Kd.R_drewN | apply Kd.R_drew)); exact HO195.out⟩, ⟨by repeat (first | (with_reducible first | exact HB.out | apply below_alloc | apply pw_below_drewN | apply below_drew1) | exact HB.out)⟩⟩
            · rw [if_neg c20] at H
              have c20b0 : (t198.toList == t199.toList) = false := beq_eq_false_iff_ne.mpr c20
              have c20b1 : (t198.toList != t199.toList) = true := bne_iff_ne.mpr c20
              have H' := Aside0.mk H
              clear H
              obtain ⟨Ao28, co28, eo28⟩ := Kd.R_slice HO195.out
              subst eo28
              go_wp2_with (first | ((with_reducible refine gate_callee (f := 19) rfl ?_); refine goesL_ (some 23) rfl rfl Try.func19 (by kernel_rfl) rfl #[.slice Ao28 t193.length co28] rfl (by (try simp only [List.map_toArray, List.map_cons, List.map_nil]); first | done | rfl | (simp only [List.length_drop, List.length_take]; rfl)) ?_; (with_reducible refine (labels_May.calls kj3 _ _ t193 t196 _ ?side1 ?side2 A12.out).mono ?_); (case side1 => repeat (first | exact (Kd.R_reads' HO195.out).2.2 | (with_reducible refine Kd.C_alloc ?_ _) | (with_reducible refine Kd.C_drewN ?_ _) | (with_reducible refine Kd.C_drew ?_))); (case side2 => exact (Kd.R_reads' HO195.out).2.1); rintro e w29 ⟨rfl, hb⟩; refine ⟨_, rfl, ?_⟩; have n0_ := Aside0.mk (Kd.R_below (by (with_reducible repeat (first | apply Kd.R_alloc | apply Kd.R_drewN | apply Kd.R_drew)); exact HO195.out) hb); have n1_ := Aside0.mk (below_step (by repeat (first | (with_reducible first | exact HB.out | apply below_alloc | apply pw_below_drewN | apply below_drew1) | exact HB.out)) hb); clear HO195; clear HB; have HO195 := n0_; have HB := n1_; clear n0_ n1_; (try clear hb); (try clear hb2); (try clear hk); (try clear hi)) | ((with_reducible refine gate_callee (f := 20) rfl ?_); refine goesL_ (some 25) rfl rfl Try.func20 (by kernel_rfl) rfl #[.slice A0 l0.length c0] rfl (by (try simp only [List.map_toArray, List.map_cons, List.map_nil]); first | done | rfl | (simp only [List.length_drop, List.length_take]; rfl)) ?_; (with_reducible refine (tocsinref07_May.calls kj3 _ _ l0 t197 _ ?side1 ?side2 A13.out).mono ?_); (case side1 => repeat (first | exact (Kd.C_below HR0.out HB.out) | (with_reducible refine Kd.C_alloc ?_ _) | (with_reducible refine Kd.C_drewN ?_ _) | (with_reducible refine Kd.C_drew ?_))); (case side2 => exact HC0.out); rintro e w30 ⟨rfl, hb⟩; refine ⟨_, rfl, ?_⟩; have n0_ := Aside0.mk (Kd.R_below (by (with_reducible repeat (first | apply Kd.R_alloc | apply Kd.R_drewN | apply Kd.R_drew)); exact HO195.out) hb); have n1_ := Aside0.mk (below_step (by repeat (first | (with_reducible first | exact HB.out | apply below_alloc | apply pw_below_drewN | apply below_drew1) | exact HB.out)) hb); clear HO195; clear HB; have HO195 := n0_; have HB := n1_; clear n0_ n1_; (try clear hb); (try clear hb2); (try clear hk); (try clear hi)) | (go_at_call 21; (with_reducible refine (labels_Print.calls kj3 _ _ t193 t198 _ ?side1 ?side2 A18.out).mono ?_); (case side1 => repeat (first | exact (Kd.R_reads' HO195.out).2.2 | (with_reducible refine Kd.C_alloc ?_ _) | (with_reducible refine Kd.C_drewN ?_ _) | (with_reducible refine Kd.C_drew ?_))); (case side2 => exact (Kd.R_reads' HO195.out).2.1); rintro e w31 ⟨rfl, hb⟩; have n0_ := Aside0.mk (Kd.R_below (by (with_reducible repeat (first | apply Kd.R_alloc | apply Kd.R_drewN | apply Kd.R_drew)); exact HO195.out) hb); have n1_ := Aside0.mk (below_step (by repeat (first | (with_reducible first | exact HB.out | apply below_alloc | apply pw_below_drewN | apply below_drew1) | exact HB.out)) hb); clear HO195; clear HB; have HO195 := n0_; have HB := n1_; clear n0_ n1_; (try clear hb); (try clear hb2); (try clear hk); (try clear hi)) | (go_at_call 22; (with_reducible refine (tocsinref07_Print.calls kj3 _ _ l0 t199 _ ?side1 ?side2 A19.out).mono ?_); (case side1 => repeat (first | exact (Kd.C_below HR0.out HB.out) | (with_reducible refine Kd.C_alloc ?_ _) | (with_reducible refine Kd.C_drewN ?_ _) | (with_reducible refine Kd.C_drew ?_))); (case side2 => exact HC0.out); rintro e w' ⟨rfl, ⟨nd, rfl⟩⟩))
              go_meet
              case rel => exact ⟨_, (true), (by first | rfl | (simp; done) | (simp [*]; done)), H', ⟨by have := HJ3.out; first | omega | exact Nat.le_refl _⟩, ⟨by (with_reducible repeat (first | apply Kd.R_alloc | apply Kd.R_drewN | apply Kd.R_drew)); exact HO195.out⟩, ⟨by repeat (first | (with_reducible first | exact HB.out | apply below_alloc | apply pw_below_drewN | apply below_drew1) | exact HB.out)⟩⟩
        case rest =>
          clear HC10
          try clear c1
          try clear c2
          try clear p2
          try clear c5
          try clear c6
          try clear c7
          try clear c7b0
          try clear c7b1
          try clear c8
          try clear c12
          try clear c14
          try clear c14b0
          try clear c14b1
          try clear c14b2
          try clear c18
          try clear c19
          try clear c20
          try clear c20b0
          try clear c20b1
          try clear p2
          obtain ⟨kq, x42_9, rfl, HA, HJ9, HO_7, HB⟩ := hcut
          cases kq with
          | zero => exact absurd HA.out (by simp [tocsinlaw07_LabelsTell.j1])
          | succ kj9 =>
            have H := HA.out
            clear HA
            simp only [tocsinlaw07_LabelsTell.j1] at H
            by_cases c32 : x42_9 = true
            · subst c32
              have H1 : (some false) = some r := by rw [if_pos rfl] at H; exact H
              clear H
              have H := H1
              clear H1
              obtain rfl := Option.some.inj H
              go_wp2
              go_ret
              exact ⟨by first | rfl | (simp [errW_none, errW_some] <;> rfl) | (simp only [Opn.bne_nil, Opn.beq_nil]; done) | (simp [Opn.bne_nil, Opn.beq_nil]; done) | (simp [*, errW_none, errW_some] <;> rfl), by repeat (first | (with_reducible first | exact HB.out | apply below_alloc | apply pw_below_drewN | apply below_drew1) | exact HB.out)⟩
            · replace c32 := Bool.eq_false_iff.mpr c32
              subst c32
              have H1 : ((labels_MayName.f a1).bind fun t202 => ((tocsinref07_MayName.f kj9 a1).bind fun t203 => (if (t202 == t203) = true then ((labels_MayValue.f a2).bind fun t204 => ((tocsinref07_MayValue.f kj9 a2).bind fun t205 => (if (t204 == t205) = true then ((labels_Quote.f a2).bind fun t206 => ((tocsinref07_Quote.f kj9 a2).bind fun t207 => (if t206.toList = t207.toList then ((tocsinref07_Same.f kj9 t193 l0).bind fun t208 => (some t208)) else (some false)))) else (some false)))) else (some false)))) = some r := by rw [if_neg (show ¬ (false = true) by decide)] at H; exact H
              clear H
              have H := H1
              clear H1
              replace H := Option.bind_eq_some_iff.mp H
              obtain ⟨t202, A330, H⟩ := H
              replace H : ((tocsinref07_MayName.f kj9 a1).bind fun t203 => (if (t202 == t203) = true then ((labels_MayValue.f a2).bind fun t204 => ((tocsinref07_MayValue.f kj9 a2).bind fun t205 => (if (t204 == t205) = true then ((labels_Quote.f a2).bind fun t206 => ((tocsinref07_Quote.f kj9 a2).bind fun t207 => (if t206.toList = t207.toList then ((tocsinref07_Same.f kj9 t193 l0).bind fun t208 => (some t208)) else (some false)))) else (some false)))) else (some false))) = some r := H
              have A33 := Aside0.mk A330
              clear A330
              replace H := Option.bind_eq_some_iff.mp H
              obtain ⟨t203, A340, H⟩ := H
              replace H : (if (t202 == t203) = true then ((labels_MayValue.f a2).bind fun t204 => ((tocsinref07_MayValue.f kj9 a2).bind fun t205 => (if (t204 == t205) = true then ((labels_Quote.f a2).bind fun t206 => ((tocsinref07_Quote.f kj9 a2).bind fun t207 => (if t206.toList = t207.toList then ((tocsinref07_Same.f kj9 t193 l0).bind fun t208 => (some t208)) else (some false)))) else (some false)))) else (some false)) = some r := H
              have A34 := Aside0.mk A340
              clear A340
              by_cases c35 : (t202 == t203) = true
              · rw [if_pos c35] at H
                have c35b0 : (t202 == t203) = true := c35
                (try (have c35b1 : decide (t202 = t203) = true := by simpa using c35))
                (try (have c35b2 : (t202 == t203) = true := by simpa using c35))
                clear c35
                replace H := Option.bind_eq_some_iff.mp H
                obtain ⟨t204, A360, H⟩ := H
                replace H : ((tocsinref07_MayValue.f kj9 a2).bind fun t205 => (if (t204 == t205) = true then ((labels_Quote.f a2).bind fun t206 => ((tocsinref07_Quote.f kj9 a2).bind fun t207 => (if t206.toList = t207.toList then ((tocsinref07_Same.f kj9 t193 l0).bind fun t208 => (some t208)) else (some false)))) else (some false))) = some r := H
                have A36 := Aside0.mk A360
                clear A360
                replace H := Option.bind_eq_some_iff.mp H
                obtain ⟨t205, A370, H⟩ := H
                replace H : (if (t204 == t205) = true then ((labels_Quote.f a2).bind fun t206 => ((tocsinref07_Quote.f kj9 a2).bind fun t207 => (if t206.toList = t207.toList then ((tocsinref07_Same.f kj9 t193 l0).bind fun t208 => (some t208)) else (some false)))) else (some false)) = some r := H
                have A37 := Aside0.mk A370
                clear A370
                by_cases c38 : (t204 == t205) = true
                · rw [if_pos c38] at H
                  have c38b0 : (t204 == t205) = true := c38
                  (try (have c38b1 : decide (t204 = t205) = true := by simpa using c38))
                  (try (have c38b2 : (t204 == t205) = true := by simpa using c38))
                  clear c38
                  replace H := Option.bind_eq_some_iff.mp H
                  obtain ⟨t206, A390, H⟩ := H
                  replace H : ((tocsinref07_Quote.f kj9 a2).bind fun t207 => (if t206.toList = t207.toList then ((tocsinref07_Same.f kj9 t193 l0).bind fun t208 => (some t208)) else (some false))) = some r := H
                  have A39 := Aside0.mk A390
                  clear A390
                  replace H := Option.bind_eq_some_iff.mp H
                  obtain ⟨t207, A400, H⟩ := H
                  replace H : (if t206.toList = t207.toList then ((tocsinref07_Same.f kj9 t193 l0).bind fun t208 => (some t208)) else (some false)) = some r := H
                  have A40 := Aside0.mk A400
                  clear A400
                  by_cases c41 : t206.toList = t207.toList
                  · rw [if_pos c41] at H
                    have c41b0 : (t206.toList == t207.toList) = true := beq_iff_eq.mpr c41
                    have c41b1 : (t206.toList != t207.toList) = false := bne_eq_false_iff_eq.mpr c41
                    clear c41
                    replace H := Option.bind_eq_some_iff.mp H
                    obtain ⟨t208, A420, H⟩ := H
                    replace H : (some t208) = some r := H
                    have A42 := Aside0.mk A420
                    clear A420
                    obtain rfl := Option.some.inj H
                    go_wp2_with (first | ((with_reducible refine gate_callee (f := 25) rfl ?_); refine goesL_ (some 44) rfl rfl Try.func25 (by kernel_rfl) rfl #[.string a1] rfl (by (try simp only [List.map_toArray, List.map_cons, List.map_nil]); first | done | rfl | (simp only [List.length_drop, List.length_take]; rfl)) ?_; (with_reducible refine (labels_MayName.calls a1 t202 _ A33.out).mono ?_); rintro e w' ⟨rfl, ⟨nd, rfl⟩⟩; refine ⟨_, rfl, ?_⟩) | ((with_reducible refine gate_callee (f := 26) rfl ?_); refine goesL_ (some 46) rfl rfl Try.func26 (by kernel_rfl) rfl #[.string a1] rfl (by (try simp only [List.map_toArray, List.map_cons, List.map_nil]); first | done | rfl | (simp only [List.length_drop, List.length_take]; rfl)) ?_; (with_reducible refine (tocsinref07_MayName.calls kj9 a1 t203 _ A34.out).mono ?_); rintro e w' ⟨rfl, ⟨nd, rfl⟩⟩; refine ⟨_, rfl, ?_⟩) | (go_at_call 27; (with_reducible refine (labels_MayValue.calls a2 t204 _ A36.out).mono ?_); rintro e w' ⟨rfl, ⟨nd, rfl⟩⟩) | (go_at_call 28; (with_reducible refine (tocsinref07_MayValue.calls kj9 a2 t205 _ A37.out).mono ?_); rintro e w' ⟨rfl, ⟨nd, rfl⟩⟩) | (go_at_call 29; (with_reducible refine (labels_Quote.calls a2 t206 _ A39.out).mono ?_); rintro e w43 ⟨rfl, hb⟩; have n0_ := Aside0.mk (Kd.R_below (by (with_reducible repeat (first | apply Kd.R_alloc | apply Kd.R_drewN | apply Kd.R_drew)); exact HO_7.out) hb); have n1_ := Aside0.mk (below_step (by repeat (first | (with_reducible first | exact HB.out | apply below_alloc | apply pw_below_drewN | apply below_drew1) | exact HB.out)) hb); clear HO_7; clear HB; have HO_7 := n0_; have HB := n1_; clear n0_ n1_; (try clear hb); (try clear hb2); (try clear hk); (try clear hi)) | (go_at_call 30; (with_reducible refine (tocsinref07_Quote.calls kj9 a2 t207 _ A40.out).mono ?_); rintro e w' ⟨rfl, ⟨nd, rfl⟩⟩; obtain ⟨Ao44, co44, eo44⟩ := Kd.R_slice HO_7.out; subst eo44) | (go_at_call 17; (with_reducible refine (tocsinref07_Same.calls kj9 _ _ t193 _ _ l0 t208 _ ?side1 ?side2 ?side3 ?side4 A42.out).mono ?_); (case side1 => repeat (first | exact (Kd.R_reads' HO_7.out).2.2 | (with_reducible refine Kd.C_alloc ?_ _) | (with_reducible refine Kd.C_drewN ?_ _) | (with_reducible refine Kd.C_drew ?_))); (case side2 => exact (Kd.R_reads' HO_7.out).2.1); (case side3 => repeat (first | exact (Kd.C_below HR0.out (by repeat (first | (with_reducible first | exact HB.out | apply below_alloc | apply pw_below_drewN | apply below_drew1) | exact HB.out))) | (with_reducible refine Kd.C_alloc ?_ _) | (with_reducible refine Kd.C_drewN ?_ _) | (with_reducible refine Kd.C_drew ?_))); (case side4 => exact HC0.out); rintro e w' ⟨rfl, ⟨nd, rfl⟩⟩))
                    go_ret
                    exact ⟨by first | rfl | (simp [errW_none, errW_some] <;> rfl) | (simp only [Opn.bne_nil, Opn.beq_nil]; done) | (simp [Opn.bne_nil, Opn.beq_nil]; done) | (simp [*, errW_none, errW_some] <;> rfl), by repeat (first | (with_reducible first | exact HB.out | apply below_alloc | apply pw_below_drewN | apply below_drew1) | exact HB.out)⟩
                  · rw [if_neg c41] at H
                    have c41b0 : (t206.toList == t207.toList) = false := beq_eq_false_iff_ne.mpr c41
                    have c41b1 : (t206.toList != t207.toList) = true := bne_iff_ne.mpr c41
                    obtain rfl := Option.some.inj H
                    go_wp2_with (first | ((with_reducible refine gate_callee (f := 25) rfl ?_); refine goesL_ (some 44) rfl rfl Try.func25 (by kernel_rfl) rfl #[.string a1] rfl (by (try simp only [List.map_toArray, List.map_cons, List.map_nil]); first | done | rfl | (simp only [List.length_drop, List.length_take]; rfl)) ?_; (with_reducible refine (labels_MayName.calls a1 t202 _ A33.out).mono ?_); rintro e w' ⟨rfl, ⟨nd, rfl⟩⟩; refine ⟨_, rfl, ?_⟩) | ((with_reducible refine gate_callee (f := 26) rfl ?_); refine goesL_ (some 46) rfl rfl Try.func26 (by kernel_rfl) rfl #[.string a1] rfl (by (try simp only [List.map_toArray, List.map_cons, List.map_nil]); first | done | rfl | (simp only [List.length_drop, List.length_take]; rfl)) ?_; (with_reducible refine (tocsinref07_MayName.calls kj9 a1 t203 _ A34.out).mono ?_); rintro e w' ⟨rfl, ⟨nd, rfl⟩⟩; refine ⟨_, rfl, ?_⟩) | (go_at_call 27; (with_reducible refine (labels_MayValue.calls a2 t204 _ A36.out).mono ?_); rintro e w' ⟨rfl, ⟨nd, rfl⟩⟩) | (go_at_call 28; (with_reducible refine (tocsinref07_MayValue.calls kj9 a2 t205 _ A37.out).mono ?_); rintro e w' ⟨rfl, ⟨nd, rfl⟩⟩) | (go_at_call 29; (with_reducible refine (labels_Quote.calls a2 t206 _ A39.out).mono ?_); rintro e w45 ⟨rfl, hb⟩; have n0_ := Aside0.mk (Kd.R_below (by (with_reducible repeat (first | apply Kd.R_alloc | apply Kd.R_drewN | apply Kd.R_drew)); exact HO_7.out) hb); have n1_ := Aside0.mk (below_step (by repeat (first | (with_reducible first | exact HB.out | apply below_alloc | apply pw_below_drewN | apply below_drew1) | exact HB.out)) hb); clear HO_7; clear HB; have HO_7 := n0_; have HB := n1_; clear n0_ n1_; (try clear hb); (try clear hb2); (try clear hk); (try clear hi)) | (go_at_call 30; (with_reducible refine (tocsinref07_Quote.calls kj9 a2 t207 _ A40.out).mono ?_); rintro e w' ⟨rfl, ⟨nd, rfl⟩⟩))
                    go_ret
                    exact ⟨by first | rfl | (simp [errW_none, errW_some] <;> rfl) | (simp only [Opn.bne_nil, Opn.beq_nil]; done) | (simp [Opn.bne_nil, Opn.beq_nil]; done) | (simp [*, errW_none, errW_some] <;> rfl), by repeat (first | (with_reducible first | exact HB.out | apply below_alloc | apply pw_below_drewN | apply below_drew1) | exact HB.out)⟩
                · rw [if_neg c38] at H
                  have c38b0 : (t204 == t205) = false := by simpa using c38
                  (try (have c38b1 : decide (t204 = t205) = false := by simpa using c38))
                  (try (have c38b2 : (t204 == t205) = false := by simpa using c38))
                  (try (have c38b3 : ¬ (t204 = t205) := by simpa using c38))
                  clear c38
                  obtain rfl := Option.some.inj H
                  go_wp2_with (first | ((with_reducible refine gate_callee (f := 25) rfl ?_); refine goesL_ (some 44) rfl rfl Try.func25 (by kernel_rfl) rfl #[.string a1] rfl (by (try simp only [List.map_toArray, List.map_cons, List.map_nil]); first | done | rfl | (simp only [List.length_drop, List.length_take]; rfl)) ?_; (with_reducible refine (labels_MayName.calls a1 t202 _ A33.out).mono ?_); rintro e w' ⟨rfl, ⟨nd, rfl⟩⟩; refine ⟨_, rfl, ?_⟩) | ((with_reducible refine gate_callee (f := 26) rfl ?_); refine goesL_ (some 46) rfl rfl Try.func26 (by kernel_rfl) rfl #[.string a1] rfl (by (try simp only [List.map_toArray, List.map_cons, List.map_nil]); first | done | rfl | (simp only [List.length_drop, List.length_take]; rfl)) ?_; (with_reducible refine (tocsinref07_MayName.calls kj9 a1 t203 _ A34.out).mono ?_); rintro e w' ⟨rfl, ⟨nd, rfl⟩⟩; refine ⟨_, rfl, ?_⟩) | (go_at_call 27; (with_reducible refine (labels_MayValue.calls a2 t204 _ A36.out).mono ?_); rintro e w' ⟨rfl, ⟨nd, rfl⟩⟩) | (go_at_call 28; (with_reducible refine (tocsinref07_MayValue.calls kj9 a2 t205 _ A37.out).mono ?_); rintro e w' ⟨rfl, ⟨nd, rfl⟩⟩))
                  go_ret
                  exact ⟨by first | rfl | (simp [errW_none, errW_some] <;> rfl) | (simp only [Opn.bne_nil, Opn.beq_nil]; done) | (simp [Opn.bne_nil, Opn.beq_nil]; done) | (simp [*, errW_none, errW_some] <;> rfl), by repeat (first | (with_reducible first | exact HB.out | apply below_alloc | apply pw_below_drewN | apply below_drew1) | exact HB.out)⟩
              · rw [if_neg c35] at H
                have c35b0 : (t202 == t203) = false := by simpa using c35
                (try (have c35b1 : decide (t202 = t203) = false := by simpa using c35))
                (try (have c35b2 : (t202 == t203) = false := by simpa using c35))
                (try (have c35b3 : ¬ (t202 = t203) := by simpa using c35))
                clear c35
                obtain rfl := Option.some.inj H
                go_wp2_with (first | ((with_reducible refine gate_callee (f := 25) rfl ?_); refine goesL_ (some 44) rfl rfl Try.func25 (by kernel_rfl) rfl #[.string a1] rfl (by (try simp only [List.map_toArray, List.map_cons, List.map_nil]); first | done | rfl | (simp only [List.length_drop, List.length_take]; rfl)) ?_; (with_reducible refine (labels_MayName.calls a1 t202 _ A33.out).mono ?_); rintro e w' ⟨rfl, ⟨nd, rfl⟩⟩; refine ⟨_, rfl, ?_⟩) | ((with_reducible refine gate_callee (f := 26) rfl ?_); refine goesL_ (some 46) rfl rfl Try.func26 (by kernel_rfl) rfl #[.string a1] rfl (by (try simp only [List.map_toArray, List.map_cons, List.map_nil]); first | done | rfl | (simp only [List.length_drop, List.length_take]; rfl)) ?_; (with_reducible refine (tocsinref07_MayName.calls kj9 a1 t203 _ A34.out).mono ?_); rintro e w' ⟨rfl, ⟨nd, rfl⟩⟩; refine ⟨_, rfl, ?_⟩))
                go_ret
                exact ⟨by first | rfl | (simp [errW_none, errW_some] <;> rfl) | (simp only [Opn.bne_nil, Opn.beq_nil]; done) | (simp [Opn.bne_nil, Opn.beq_nil]; done) | (simp [*, errW_none, errW_some] <;> rfl), by repeat (first | (with_reducible first | exact HB.out | apply below_alloc | apply pw_below_drewN | apply below_drew1) | exact HB.out)⟩

/-- THE ONE PURE STATEMENT of tocsinlaw07_LabelsTell: ours to prove. -/
def tocsinlaw07_LabelsTell.Pure : Prop := ∀ (l0 : List (S31)) (a1 : ByteArray) (a2 : ByteArray), l0.length ≤ 9223372036854775807 → l0.length * 32 ≤ 140737488351232 → (∀ y ∈ l0, good31 y) → a1.size ≤ 140737488351232 → a2.size ≤ 140737488351232 → ∃ k, tocsinlaw07_LabelsTell.f k l0 a1 a2 = some true

end Go.Proofs.Ytiicfejaoilfcaa.Q

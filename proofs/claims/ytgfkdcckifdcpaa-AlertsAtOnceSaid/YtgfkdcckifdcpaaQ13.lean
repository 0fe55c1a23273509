/- Functions of the program as plain Lean functions, each with the proof that its call comes to just these answers: written by a program of this session (wip/tools/printg.py over the kit's print) for this claim. -/
import Derived.Test.YtgfkdcckifdcpaaQ0
import Derived.Test.YtgfkdcckifdcpaaQ3
import Derived.Test.YtgfkdcckifdcpaaQ4
import Derived.Test.YtgfkdcckifdcpaaQ5
import Derived.Test.YtgfkdcckifdcpaaQ7
import Derived.Test.YtgfkdcckifdcpaaQ11
namespace Go.Proofs.Ytgfkdcckifdcpaa.Q
open Go.RowKit Go.Proofs.YtgfkdcckifdcpaaW.PrintWords Go.Proofs.YtgfkdcckifdcpaaW.PrintLast Go.Proofs.YtgfkdcckifdcpaaW.PrintMore
attribute [local go_sem] Opn.str_leq Opn.str_gtr Opn.str_geq max2_int min2_int max_two min_two max_three min_three max_four min_four   -- for this text's walks alone
set_option linter.unusedVariables false
set_option linter.unusedSimpArgs false

/-! ### tocsinlaw22_AlertsAtOnce: function 7 -/
mutual
def tocsinlaw22_AlertsAtOnce.j0 : Nat → Int → Int → Int → List ByteArray → Bool → Option (Bool)
  | 0, _, _, _, _, _ => none
  | k + 1, x0, x1, x2, x3, x26 => if x26 = true then (some true) else ((alerts_Step.f ([] : List (S36)) x0 x1 1 x2 x3).bind fun t310 => ((alerts_Firing.f k t310).bind fun t313 => (tocsinlaw22_AlertsAtOnce.l0 k x1 x2 x3 t310 t313 0)))
def tocsinlaw22_AlertsAtOnce.l0 : Nat → Int → Int → List ByteArray → List (S36) → List ByteArray → Int → Option (Bool)
  | 0, _, _, _, _, _, _ => none
  | k + 1, x1, x2, x3, x9, x10, x11 => if x11 < (x9.length : Int) then (if 0 ≤ x11 then (if ((rd_T36 x9 x11).f3) = x2 then (if ((rd_T36 x9 x11).f4) = (-1) then ((tocsinref22_Has.f k x3 ((rd_T36 x9 x11).f1)).bind fun t319 => (if t319 = true then (tocsinlaw22_AlertsAtOnce.l0 k x1 x2 x3 x9 x10 (wrap64 (x11 + 1))) else (some false))) else (some false)) else (some false)) else (none)) else (tocsinlaw22_AlertsAtOnce.l1 k x1 x3 x9 x10 0)
def tocsinlaw22_AlertsAtOnce.l1 : Nat → Int → List ByteArray → List (S36) → List ByteArray → Int → Option (Bool)
  | 0, _, _, _, _, _ => none
  | k + 1, x1, x3, x9, x10, x12 => if x12 < (x3.length : Int) then (if 0 ≤ x12 then ((tocsinref22_Has.f k x10 (rdOf ByteArray.empty x3 x12)).bind fun t321 => (if (t321 != (decide (x1 ≤ 0))) = true then (some false) else (tocsinlaw22_AlertsAtOnce.l1 k x1 x3 x9 x10 (wrap64 (x12 + 1))))) else (none)) else (if x1 > 0 then (if (x10.length : Int) = 0 then (some true) else (if x1 ≤ 0 then (some ((x10.length : Int) == (x9.length : Int))) else (some false))) else (if x1 ≤ 0 then (some ((x10.length : Int) == (x9.length : Int))) else (some false)))
end
def tocsinlaw22_AlertsAtOnce.f (k : Nat) (a0 : Int) (a1 : Int) (a2 : Int) (l3 : List ByteArray) : Option (Bool) := (tocsinlaw22_awake.f k).bind fun t306 => (if t306 = true then ((tocsinlaw22_great.f k ([] : List (S36)) l3).bind fun t307 => (if t307 = true then (tocsinlaw22_AlertsAtOnce.j0 k a0 a1 a2 l3 true) else ((tocsinlaw22_small.f a1).bind fun t308 => (if t308 = true then ((tocsinlaw22_small.f a2).bind fun t309 => (tocsinlaw22_AlertsAtOnce.j0 k a0 a1 a2 l3 (!t309))) else (tocsinlaw22_AlertsAtOnce.j0 k a0 a1 a2 l3 true))))) else (some false))
theorem tocsinlaw22_AlertsAtOnce.mono_l : ∀ k, (∀ y0 y1 y2 y3 y4, LeO (tocsinlaw22_AlertsAtOnce.j0 k y0 y1 y2 y3 y4) (tocsinlaw22_AlertsAtOnce.j0 (k + 1) y0 y1 y2 y3 y4)) ∧ (∀ y0 y1 y2 y3 y4 y5, LeO (tocsinlaw22_AlertsAtOnce.l0 k y0 y1 y2 y3 y4 y5) (tocsinlaw22_AlertsAtOnce.l0 (k + 1) y0 y1 y2 y3 y4 y5)) ∧ (∀ y0 y1 y2 y3 y4, LeO (tocsinlaw22_AlertsAtOnce.l1 k y0 y1 y2 y3 y4) (tocsinlaw22_AlertsAtOnce.l1 (k + 1) y0 y1 y2 y3 y4))
  | 0 => ⟨fun _ _ _ _ _ r h => by simp [tocsinlaw22_AlertsAtOnce.j0] at h, fun _ _ _ _ _ _ r h => by simp [tocsinlaw22_AlertsAtOnce.l0] at h, fun _ _ _ _ _ r h => by simp [tocsinlaw22_AlertsAtOnce.l1] at h⟩
  | k + 1 => by
    obtain ⟨ih0, ih1, ih2⟩ := tocsinlaw22_AlertsAtOnce.mono_l k
    refine ⟨?_, ?_, ?_⟩
    · intro y0 y1 y2 y3 y4
      unfold tocsinlaw22_AlertsAtOnce.j0
      repeat' first
      | (with_reducible exact ih0 _ _ _ _ _)
      | (with_reducible exact ih1 _ _ _ _ _ _)
      | (with_reducible exact ih2 _ _ _ _ _)
      | (with_reducible exact alerts_Firing.mono _ _)
      | (with_reducible exact tocsinlaw22_awake.mono _)
      | (with_reducible exact tocsinlaw22_great.mono _ _ _)
      | (with_reducible exact tocsinref22_Has.mono _ _ _)
      | (with_reducible exact LeO.refl _)
      | (with_reducible exact LeO.none _)
      | (with_reducible refine LeO.ite ?_ ?_)
      | (with_reducible refine LeO.bind ?_ (fun _ => ?_))
      | exact ih0 _ _ _ _ _
      | exact ih1 _ _ _ _ _ _
      | exact ih2 _ _ _ _ _
      | exact alerts_Firing.mono _ _
      | exact tocsinlaw22_awake.mono _
      | exact tocsinlaw22_great.mono _ _ _
      | exact tocsinref22_Has.mono _ _ _
      | exact LeO.none _
      | refine LeO.ite ?_ ?_
      | refine LeO.bind ?_ (fun _ => ?_)
    · intro y0 y1 y2 y3 y4 y5
      unfold tocsinlaw22_AlertsAtOnce.l0
      repeat' first
      | (with_reducible exact ih0 _ _ _ _ _)
      | (with_reducible exact ih1 _ _ _ _ _ _)
      | (with_reducible exact ih2 _ _ _ _ _)
      | (with_reducible exact alerts_Firing.mono _ _)
      | (with_reducible exact tocsinlaw22_awake.mono _)
      | (with_reducible exact tocsinlaw22_great.mono _ _ _)
      | (with_reducible exact tocsinref22_Has.mono _ _ _)
      | (with_reducible exact LeO.refl _)
      | (with_reducible exact LeO.none _)
      | (with_reducible refine LeO.ite ?_ ?_)
      | (with_reducible refine LeO.bind ?_ (fun _ => ?_))
      | exact ih0 _ _ _ _ _
      | exact ih1 _ _ _ _ _ _
      | exact ih2 _ _ _ _ _
      | exact alerts_Firing.mono _ _
      | exact tocsinlaw22_awake.mono _
      | exact tocsinlaw22_great.mono _ _ _
      | exact tocsinref22_Has.mono _ _ _
      | exact LeO.none _
      | refine LeO.ite ?_ ?_
      | refine LeO.bind ?_ (fun _ => ?_)
    · intro y0 y1 y2 y3 y4
      unfold tocsinlaw22_AlertsAtOnce.l1
      repeat' first
      | (with_reducible exact ih0 _ _ _ _ _)
      | (with_reducible exact ih1 _ _ _ _ _ _)
      | (with_reducible exact ih2 _ _ _ _ _)
      | (with_reducible exact alerts_Firing.mono _ _)
      | (with_reducible exact tocsinlaw22_awake.mono _)
      | (with_reducible exact tocsinlaw22_great.mono _ _ _)
      | (with_reducible exact tocsinref22_Has.mono _ _ _)
      | (with_reducible exact LeO.refl _)
      | (with_reducible exact LeO.none _)
      | (with_reducible refine LeO.ite ?_ ?_)
      | (with_reducible refine LeO.bind ?_ (fun _ => ?_))
      | exact ih0 _ _ _ _ _
      | exact ih1 _ _ _ _ _ _
      | exact ih2 _ _ _ _ _
      | exact alerts_Firing.mono _ _
      | exact tocsinlaw22_awake.mono _
      | exact tocsinlaw22_great.mono _ _ _
      | exact tocsinref22_Has.mono _ _ _
      | exact LeO.none _
      | refine LeO.ite ?_ ?_
      | refine LeO.bind ?_ (fun _ => ?_)
theorem tocsinlaw22_AlertsAtOnce.mono : ∀ a0 a1 a2 a3 k, LeO (tocsinlaw22_AlertsAtOnce.f k a0 a1 a2 a3) (tocsinlaw22_AlertsAtOnce.f (k + 1) a0 a1 a2 a3) := by
  intro a0 a1 a2 a3 k
  obtain ⟨ih0, ih1, ih2⟩ := tocsinlaw22_AlertsAtOnce.mono_l k
  unfold tocsinlaw22_AlertsAtOnce.f
  repeat' first
      | (with_reducible exact ih0 _ _ _ _ _)
      | (with_reducible exact ih1 _ _ _ _ _ _)
      | (with_reducible exact ih2 _ _ _ _ _)
      | (with_reducible exact alerts_Firing.mono _ _)
      | (with_reducible exact tocsinlaw22_awake.mono _)
      | (with_reducible exact tocsinlaw22_great.mono _ _ _)
      | (with_reducible exact tocsinref22_Has.mono _ _ _)
      | (with_reducible exact LeO.refl _)
      | (with_reducible exact LeO.none _)
      | (with_reducible refine LeO.ite ?_ ?_)
      | (with_reducible refine LeO.bind ?_ (fun _ => ?_))
      | exact ih0 _ _ _ _ _
      | exact ih1 _ _ _ _ _ _
      | exact ih2 _ _ _ _ _
      | exact alerts_Firing.mono _ _
      | exact tocsinlaw22_awake.mono _
      | exact tocsinlaw22_great.mono _ _ _
      | exact tocsinref22_Has.mono _ _ _
      | exact LeO.none _
      | refine LeO.ite ?_ ?_
      | refine LeO.bind ?_ (fun _ => ?_)
set_option maxHeartbeats 8000000 in
set_option maxRecDepth 100000 in
theorem tocsinlaw22_AlertsAtOnce.calls (k : Nat) (a0 : Int) (a1 : Int) (a2 : Int) (A3 : Option Addr) (c3 : Nat) (l3 : List ByteArray) (r : Bool) (w : World) (hr3 : Kd.C Kd.string w A3 l3.length l3) (hc3 : l3.length ≤ c3) (h : tocsinlaw22_AlertsAtOnce.f k a0 a1 a2 l3 = some r) :
    Calls Try.prog 7 #[.int .u32 a0, .int .i64 a1, .int .i64 a2, .slice A3 l3.length c3] w fun e w' => e = .returned (.bool r) ∧ Below w.heap.size w w' := by
  have HR3 := Aside0.mk hr3
  have HC3 := Aside0.mk hc3
  clear hr3 hc3
  have HB := Aside0.mk (Below.refl w.heap.size w)
  have H : ((tocsinlaw22_awake.f k).bind fun t306 => (if t306 = true then ((tocsinlaw22_great.f k ([] : List (S36)) l3).bind fun t307 => (if t307 = true then (tocsinlaw22_AlertsAtOnce.j0 k a0 a1 a2 l3 true) else ((tocsinlaw22_small.f a1).bind fun t308 => (if t308 = true then ((tocsinlaw22_small.f a2).bind fun t309 => (tocsinlaw22_AlertsAtOnce.j0 k a0 a1 a2 l3 (!t309))) else (tocsinlaw22_AlertsAtOnce.j0 k a0 a1 a2 l3 true))))) else (some false))) = some r := h
  clear h
  replace H := Option.bind_eq_some_iff.mp H
  obtain ⟨t306, A50, H⟩ := H
  replace H : (if t306 = true then ((tocsinlaw22_great.f k ([] : List (S36)) l3).bind fun t307 => (if t307 = true then (tocsinlaw22_AlertsAtOnce.j0 k a0 a1 a2 l3 true) else ((tocsinlaw22_small.f a1).bind fun t308 => (if t308 = true then ((tocsinlaw22_small.f a2).bind fun t309 => (tocsinlaw22_AlertsAtOnce.j0 k a0 a1 a2 l3 (!t309))) else (tocsinlaw22_AlertsAtOnce.j0 k a0 a1 a2 l3 true))))) else (some false)) = some r := H
  have A5 := Aside0.mk A50
  clear A50
  by_cases c6 : t306 = true
  · subst c6
    have H1 : ((tocsinlaw22_great.f k ([] : List (S36)) l3).bind fun t307 => (if t307 = true then (tocsinlaw22_AlertsAtOnce.j0 k a0 a1 a2 l3 true) else ((tocsinlaw22_small.f a1).bind fun t308 => (if t308 = true then ((tocsinlaw22_small.f a2).bind fun t309 => (tocsinlaw22_AlertsAtOnce.j0 k a0 a1 a2 l3 (!t309))) else (tocsinlaw22_AlertsAtOnce.j0 k a0 a1 a2 l3 true))))) = some r := by rw [if_pos rfl] at H; exact H
    clear H
    have H := H1
    clear H1
    have HC7 := Aside0.mk H
    clear H
    go_enter Try.func7, Try.ntmps7
    go_upto_region 3 with (first | ((with_reducible refine gate_callee (f := 8) rfl ?_); refine goesL_ (some 13) rfl rfl Try.func8 (by kernel_rfl) rfl #[] rfl (by (try simp only [List.map_toArray, List.map_cons, List.map_nil]); first | done | rfl | (simp only [List.length_drop, List.length_take]; rfl)) ?_; (with_reducible refine (tocsinlaw22_awake.calls k  true _ A5.out).mono ?_); rintro e w8 ⟨rfl, hb⟩; refine ⟨_, rfl, ?_⟩; have n0_ := Aside0.mk (below_step (by repeat (first | (with_reducible first | exact HB.out | apply below_alloc | apply pw_below_drewN | apply below_drew1) | exact HB.out)) hb); clear HB; have HB := n0_; clear n0_; (try clear hb); (try clear hb2); (try clear hk); (try clear hi)))
    (try simp only [Act.put, List.setIfInBounds_toArray, List.set_cons_zero, List.set_cons_succ])
    go_cut [26] (fun v26 wc => ∃ (kq : Nat) (x26_6 : Bool), v26 = .bool x26_6 ∧ Aside0 (tocsinlaw22_AlertsAtOnce.j0 kq a0 a1 a2 l3 x26_6 = some r) ∧ Aside0 (kq ≤ k) ∧ Aside0 (Below w.heap.size w wc))
    case first =>
      have H := HC7.out
      clear HC7
      replace H := Option.bind_eq_some_iff.mp H
      obtain ⟨t307, A90, H⟩ := H
      replace H : (if t307 = true then (tocsinlaw22_AlertsAtOnce.j0 k a0 a1 a2 l3 true) else ((tocsinlaw22_small.f a1).bind fun t308 => (if t308 = true then ((tocsinlaw22_small.f a2).bind fun t309 => (tocsinlaw22_AlertsAtOnce.j0 k a0 a1 a2 l3 (!t309))) else (tocsinlaw22_AlertsAtOnce.j0 k a0 a1 a2 l3 true)))) = some r := H
      have A9 := Aside0.mk A90
      clear A90
      by_cases c10 : t307 = true
      · subst c10
        have H1 : (tocsinlaw22_AlertsAtOnce.j0 k a0 a1 a2 l3 true) = some r := by rw [if_pos rfl] at H; exact H
        clear H
        have H := H1
        clear H1
        have H' := Aside0.mk H
        clear H
        go_wp2_with (first | ((with_reducible refine gate_callee (f := 13) rfl ?_); refine goesL_ (some 16) rfl rfl Try.func13 (by kernel_rfl) rfl #[.slice none 0 0, .slice A3 l3.length c3] rfl (by (try simp only [List.map_toArray, List.map_cons, List.map_nil]); first | done | rfl | (simp only [List.length_drop, List.length_take]; rfl)) ?_; (refine (tocsinlaw22_great.calls k _ _ ([] : List (S36)) _ _ l3 true _ ?side1 ?side2 ?side3 ?side4 A9.out).mono ?_); (case side1 => exact Kd.C_nil _ _); (case side2 => exact Nat.le_refl _); (case side3 => repeat (first | exact (Kd.C_below HR3.out HB.out) | (with_reducible refine Kd.C_alloc ?_ _) | (with_reducible refine Kd.C_drewN ?_ _) | (with_reducible refine Kd.C_drew ?_))); (case side4 => exact HC3.out); rintro e w' ⟨rfl, ⟨nd, rfl⟩⟩; refine ⟨_, rfl, ?_⟩))
        go_meet
        case rel => exact ⟨_, (true), (by first | rfl | (simp; done) | (simp [*]; done)), H', ⟨by first | omega | exact Nat.le_refl _⟩, ⟨by repeat (first | (with_reducible first | exact HB.out | apply below_alloc | apply pw_below_drewN | apply below_drew1) | exact HB.out)⟩⟩
      · replace c10 := Bool.eq_false_iff.mpr c10
        subst c10
        have H1 : ((tocsinlaw22_small.f a1).bind fun t308 => (if t308 = true then ((tocsinlaw22_small.f a2).bind fun t309 => (tocsinlaw22_AlertsAtOnce.j0 k a0 a1 a2 l3 (!t309))) else (tocsinlaw22_AlertsAtOnce.j0 k a0 a1 a2 l3 true))) = some r := by rw [if_neg (show ¬ (false = true) by decide)] at H; exact H
        clear H
        have H := H1
        clear H1
        replace H := Option.bind_eq_some_iff.mp H
        obtain ⟨t308, A110, H⟩ := H
        replace H : (if t308 = true then ((tocsinlaw22_small.f a2).bind fun t309 => (tocsinlaw22_AlertsAtOnce.j0 k a0 a1 a2 l3 (!t309))) else (tocsinlaw22_AlertsAtOnce.j0 k a0 a1 a2 l3 true)) = some r := H
        have A11 := Aside0.mk A110
        clear A110
        by_cases c12 : t308 = true
        · subst c12
          have H1 : ((tocsinlaw22_small.f a2).bind fun t309 => (tocsinlaw22_AlertsAtOnce.j0 k a0 a1 a2 l3 (!t309))) = some r := by rw [if_pos rfl] at H; exact H
          clear H
          have H := H1
          clear H1
          replace H := Option.bind_eq_some_iff.mp H
          obtain ⟨t309, A130, H⟩ := H
          replace H : (tocsinlaw22_AlertsAtOnce.j0 k a0 a1 a2 l3 (!t309)) = some r := H
          have A13 := Aside0.mk A130
          clear A130
          have H' := Aside0.mk H
          clear H
          go_wp2_with (first | ((with_reducible refine gate_callee (f := 13) rfl ?_); refine goesL_ (some 16) rfl rfl Try.func13 (by kernel_rfl) rfl #[.slice none 0 0, .slice A3 l3.length c3] rfl (by (try simp only [List.map_toArray, List.map_cons, List.map_nil]); first | done | rfl | (simp only [List.length_drop, List.length_take]; rfl)) ?_; (refine (tocsinlaw22_great.calls k _ _ ([] : List (S36)) _ _ l3 false _ ?side1 ?side2 ?side3 ?side4 A9.out).mono ?_); (case side1 => exact Kd.C_nil _ _); (case side2 => exact Nat.le_refl _); (case side3 => repeat (first | exact (Kd.C_below HR3.out HB.out) | (with_reducible refine Kd.C_alloc ?_ _) | (with_reducible refine Kd.C_drewN ?_ _) | (with_reducible refine Kd.C_drew ?_))); (case side4 => exact HC3.out); rintro e w' ⟨rfl, ⟨nd, rfl⟩⟩; refine ⟨_, rfl, ?_⟩) | (go_at_call 9; (with_reducible refine (tocsinlaw22_small.calls a1 true _ A11.out).mono ?_); rintro e w' ⟨rfl, ⟨nd, rfl⟩⟩) | (go_at_call 9; (with_reducible refine (tocsinlaw22_small.calls a2 t309 _ A13.out).mono ?_); rintro e w' ⟨rfl, ⟨nd, rfl⟩⟩))
          go_meet
          case rel => exact ⟨_, (!t309), (by first | rfl | (simp; done) | (simp [*]; done)), H', ⟨by first | omega | exact Nat.le_refl _⟩, ⟨by repeat (first | (with_reducible first | exact HB.out | apply below_alloc | apply pw_below_drewN | apply below_drew1) | exact HB.out)⟩⟩
        · replace c12 := Bool.eq_false_iff.mpr c12
          subst c12
          have H1 : (tocsinlaw22_AlertsAtOnce.j0 k a0 a1 a2 l3 true) = some r := by rw [if_neg (show ¬ (false = true) by decide)] at H; exact H
          clear H
          have H := H1
          clear H1
          have H' := Aside0.mk H
          clear H
          go_wp2_with (first | ((with_reducible refine gate_callee (f := 13) rfl ?_); refine goesL_ (some 16) rfl rfl Try.func13 (by kernel_rfl) rfl #[.slice none 0 0, .slice A3 l3.length c3] rfl (by (try simp only [List.map_toArray, List.map_cons, List.map_nil]); first | done | rfl | (simp only [List.length_drop, List.length_take]; rfl)) ?_; (refine (tocsinlaw22_great.calls k _ _ ([] : List (S36)) _ _ l3 false _ ?side1 ?side2 ?side3 ?side4 A9.out).mono ?_); (case side1 => exact Kd.C_nil _ _); (case side2 => exact Nat.le_refl _); (case side3 => repeat (first | exact (Kd.C_below HR3.out HB.out) | (with_reducible refine Kd.C_alloc ?_ _) | (with_reducible refine Kd.C_drewN ?_ _) | (with_reducible refine Kd.C_drew ?_))); (case side4 => exact HC3.out); rintro e w' ⟨rfl, ⟨nd, rfl⟩⟩; refine ⟨_, rfl, ?_⟩) | (go_at_call 9; (with_reducible refine (tocsinlaw22_small.calls a1 false _ A11.out).mono ?_); rintro e w' ⟨rfl, ⟨nd, rfl⟩⟩))
          go_meet
          case rel => exact ⟨_, (true), (by first | rfl | (simp; done) | (simp [*]; done)), H', ⟨by first | omega | exact Nat.le_refl _⟩, ⟨by repeat (first | (with_reducible first | exact HB.out | apply below_alloc | apply pw_below_drewN | apply below_drew1) | exact HB.out)⟩⟩
    case rest =>
      clear HC7
      try clear c1
      try clear p2
      try clear c3
      try clear c6
      try clear c7
      try clear c8
      try clear c10
      try clear c12
      try clear c13
      obtain ⟨kq, x26_6, rfl, HA, HJ6, HB⟩ := hcut
      cases kq with
      | zero => exact absurd HA.out (by simp [tocsinlaw22_AlertsAtOnce.j0])
      | succ kj6 =>
        have H := HA.out
        clear HA
        simp only [tocsinlaw22_AlertsAtOnce.j0] at H
        by_cases c14 : x26_6 = true
        · subst c14
          have H1 : (some true) = some r := by rw [if_pos rfl] at H; exact H
          clear H
          have H := H1
          clear H1
          obtain rfl := Option.some.inj H
          go_wp2
          go_ret
          exact ⟨by first | rfl | (simp [errW_none, errW_some] <;> rfl) | (simp only [Opn.bne_nil, Opn.beq_nil]; done) | (simp [Opn.bne_nil, Opn.beq_nil]; done) | (simp [*, errW_none, errW_some] <;> rfl), by repeat (first | (with_reducible first | exact HB.out | apply below_alloc | apply pw_below_drewN | apply below_drew1) | exact HB.out)⟩
        · replace c14 := Bool.eq_false_iff.mpr c14
          subst c14
          have H1 : ((alerts_Step.f ([] : List (S36)) a0 a1 1 a2 l3).bind fun t310 => ((alerts_Firing.f kj6 t310).bind fun t313 => (tocsinlaw22_AlertsAtOnce.l0 kj6 a1 a2 l3 t310 t313 0))) = some r := by rw [if_neg (show ¬ (false = true) by decide)] at H; exact H
          clear H
          have H := H1
          clear H1
          replace H := Option.bind_eq_some_iff.mp H
          obtain ⟨t310, A150, H⟩ := H
          replace H : ((alerts_Firing.f kj6 t310).bind fun t313 => (tocsinlaw22_AlertsAtOnce.l0 kj6 a1 a2 l3 t310 t313 0)) = some r := H
          have A15 := Aside0.mk A150
          clear A150
          replace H := Option.bind_eq_some_iff.mp H
          obtain ⟨t313, A160, H⟩ := H
          replace H : (tocsinlaw22_AlertsAtOnce.l0 kj6 a1 a2 l3 t310 t313 0) = some r := H
          have A16 := Aside0.mk A160
          clear A160
          have H' := Aside0.mk H
          clear H
          go_wp2_with (first | ((with_reducible refine gate_callee (f := 11) rfl ?_); refine goesL_ (some 31) rfl rfl Try.func11 (by kernel_rfl) rfl #[.slice none 0 0, .int .u32 a0, .int .i64 a1, .int .i64 1, .int .i64 a2, .slice A3 l3.length c3] rfl (by (try simp only [List.map_toArray, List.map_cons, List.map_nil]); first | done | rfl | (simp only [List.length_drop, List.length_take]; rfl)) ?_; (refine (alerts_Step.calls _ _ ([] : List (S36)) a0 a1 1 a2 _ _ l3 t310 _ ?side1 ?side2 ?side3 ?side4 A15.out).mono ?_); (case side1 => exact Kd.C_nil _ _); (case side2 => exact Nat.le_refl _); (case side3 => repeat (first | exact (Kd.C_below HR3.out HB.out) | (with_reducible refine Kd.C_alloc ?_ _) | (with_reducible refine Kd.C_drewN ?_ _) | (with_reducible refine Kd.C_drew ?_))); (case side4 => exact HC3.out); rintro e w17 ⟨v311, rfl, ho0, hb⟩; refine ⟨_, rfl, ?_⟩; have n0_ := Aside0.mk (Kd.R_lower ho0 (below_size (by repeat (first | (with_reducible first | exact HB.out | apply below_alloc | apply pw_below_drewN | apply below_drew1) | exact HB.out)))); have n1_ := Aside0.mk (below_step (by repeat (first | (with_reducible first | exact HB.out | apply below_alloc | apply pw_below_drewN | apply below_drew1) | exact HB.out)) hb); clear HB; have HO312 := n0_; have HB := n1_; clear n0_ n1_; (try clear hb); (try clear hb2); (try clear hk); (try clear hi); (try clear ho0); obtain ⟨Ao18, co18, eo18⟩ := Kd.R_slice HO312.out; subst eo18) | ((with_reducible refine gate_callee (f := 16) rfl ?_); refine goesL_ (some 33) rfl rfl Try.func16 (by kernel_rfl) rfl #[.slice Ao18 t310.length co18] rfl (by (try simp only [List.map_toArray, List.map_cons, List.map_nil]); first | done | rfl | (simp only [List.length_drop, List.length_take]; rfl)) ?_; (with_reducible refine (alerts_Firing.calls kj6 _ _ t310 t313 _ ?side1 ?side2 A16.out).mono ?_); (case side1 => repeat (first | exact (Kd.R_reads' HO312.out).2.2 | (with_reducible refine Kd.C_alloc ?_ _) | (with_reducible refine Kd.C_drewN ?_ _) | (with_reducible refine Kd.C_drew ?_))); (case side2 => exact (Kd.R_reads' HO312.out).2.1); rintro e w19 ⟨v314, rfl, ho0, hb⟩; refine ⟨_, rfl, ?_⟩; have n0_ := Aside0.mk (Kd.R_below (by (with_reducible repeat (first | apply Kd.R_alloc | apply Kd.R_drewN | apply Kd.R_drew)); exact HO312.out) hb); have n1_ := Aside0.mk (Kd.R_lower ho0 (below_size (by repeat (first | (with_reducible first | exact HB.out | apply below_alloc | apply pw_below_drewN | apply below_drew1) | exact HB.out)))); have n2_ := Aside0.mk (below_step (by repeat (first | (with_reducible first | exact HB.out | apply below_alloc | apply pw_below_drewN | apply below_drew1) | exact HB.out)) hb); clear HO312; clear HB; have HO312 := n0_; have HO315 := n1_; have HB := n2_; clear n0_ n1_ n2_; (try clear hb); (try clear hb2); (try clear hk); (try clear hi); (try clear ho0)))
          go_loopg [11] kj6 (fun kq v11 w' => ∃ (x11_2 : Int), v11 = .int .i64 x11_2 ∧ Aside0 (tocsinlaw22_AlertsAtOnce.l0 kq a1 a2 l3 t310 t313 x11_2 = some r) ∧ Aside0 (kq ≤ kj6) ∧ Aside0 (Kd.R k36 36 w' w.heap.size (fun _ => True) (.slice Ao18 t310.length co18) t310) ∧ Aside0 (Kd.R Kd.string 9 w' w.heap.size (fun _ => True) v314 t313) ∧ Aside0 (Below w.heap.size w w'))
          case atStart => exact ⟨(0), (by first | rfl | (simp; done) | (simp [*]; done)), H', ⟨Nat.le_refl _⟩, ⟨by (with_reducible repeat (first | apply Kd.R_alloc | apply Kd.R_drewN | apply Kd.R_drew)); exact HO312.out⟩, ⟨by (with_reducible repeat (first | apply Kd.R_alloc | apply Kd.R_drewN | apply Kd.R_drew)); exact HO315.out⟩, ⟨by repeat (first | (with_reducible first | exact HB.out | apply below_alloc | apply pw_below_drewN | apply below_drew1) | exact HB.out)⟩⟩
          case round =>
            clear H'
            try clear c1
            try clear p2
            try clear c3
            try clear c6
            try clear c7
            try clear c8
            try clear c10
            try clear c11
            try clear c12
            try clear c13
            try clear c14
            try clear c16
            try clear p2
            obtain ⟨x11_2, rfl, HA, HK2, HO_9, HO_10, HB⟩ := hrel
            cases gk with
            | zero => exact absurd HA.out (by simp [tocsinlaw22_AlertsAtOnce.l0])
            | succ k2 =>
              have H := HA.out
              clear HA
              simp only [tocsinlaw22_AlertsAtOnce.l0] at H
              by_cases c20 : x11_2 < (t310.length : Int)
              · rw [if_pos c20] at H
                have c20b0 : decide (x11_2 < (t310.length : Int)) = true := decide_eq_true c20
                clear c20
                by_cases c21 : 0 ≤ x11_2
                · rw [if_pos c21] at H
                  have c21b0 : decide (0 ≤ x11_2) = true := decide_eq_true c21
                  clear c21
                  by_cases c22 : ((rd_T36 t310 x11_2).f3) = a2
                  · rw [if_pos c22] at H
                    have c22b0 : (((rd_T36 t310 x11_2).f3) == a2) = true := beq_iff_eq.mpr c22
                    have c22b1 : (((rd_T36 t310 x11_2).f3) != a2) = false := bne_eq_false_iff_eq.mpr c22
                    clear c22
                    by_cases c23 : ((rd_T36 t310 x11_2).f4) = (-1)
                    · rw [if_pos c23] at H
                      have c23b0 : (((rd_T36 t310 x11_2).f4) == (-1)) = true := beq_iff_eq.mpr c23
                      have c23b1 : (((rd_T36 t310 x11_2).f4) != (-1)) = false := bne_eq_false_iff_eq.mpr c23
                      clear c23
                      replace H := Option.bind_eq_some_iff.mp H
                      obtain ⟨t319, A240, H⟩ := H
                      replace H : (if t319 = true then (tocsinlaw22_AlertsAtOnce.l0 k2 a1 a2 l3 t310 t313 (wrap64 (x11_2 + 1))) else (some false)) = some r := H
                      have A24 := Aside0.mk A240
                      clear A240
                      by_cases c25 : t319 = true
                      · subst c25
                        have H1 : (tocsinlaw22_AlertsAtOnce.l0 k2 a1 a2 l3 t310 t313 (wrap64 (x11_2 + 1))) = some r := by rw [if_pos rfl] at H; exact H
                        clear H
                        have H := H1
                        clear H1
                        have H' := Aside0.mk H
                        clear H
                        have p316 : 0 ≤ (x11_2 : Int) := of_decide_eq_true (by first | (with_reducible assumption) | assumption)
                        have q316 : x11_2 < (t310.length : Int) := of_decide_eq_true (by first | (with_reducible assumption) | assumption)
                        obtain ⟨ad316, e316, hx316_0, hx316_1, hx316_2, hx316_3, hx316_4⟩ := at_T36 (Kd.R_reads' HO_9.out).2.2 x11_2 p316 q316
                        cases e316
                        replace p316 := eq_true p316
                        replace q316 := eq_true q316
                        have p317 : 0 ≤ (x11_2 : Int) := of_decide_eq_true (by first | (with_reducible assumption) | assumption)
                        have q317 : x11_2 < (t310.length : Int) := of_decide_eq_true (by first | (with_reducible assumption) | assumption)
                        obtain ⟨ad317, e317, hx317_0, hx317_1, hx317_2, hx317_3, hx317_4⟩ := at_T36 (Kd.R_reads' HO_9.out).2.2 x11_2 p317 q317
                        obtain rfl : ad316 = ad317 := (by injection e317)
                        replace p317 := eq_true p317
                        replace q317 := eq_true q317
                        have p318 : 0 ≤ (x11_2 : Int) := of_decide_eq_true (by first | (with_reducible assumption) | assumption)
                        have q318 : x11_2 < (t310.length : Int) := of_decide_eq_true (by first | (with_reducible assumption) | assumption)
                        obtain ⟨ad318, e318, hx318_0, hx318_1, hx318_2, hx318_3, hx318_4⟩ := at_T36 (Kd.R_reads' HO_9.out).2.2 x11_2 p318 q318
                        obtain rfl : ad316 = ad318 := (by injection e318)
                        replace p318 := eq_true p318
                        replace q318 := eq_true q318
                        go_wp2_with (first | (go_at_call 12; (with_reducible refine (tocsinref22_Has.calls k2 _ _ l3 ((rd_T36 t310 x11_2).f1) true _ ?side1 ?side2 A24.out).mono ?_); (case side1 => repeat (first | exact (Kd.C_below HR3.out HB.out) | (with_reducible refine Kd.C_alloc ?_ _) | (with_reducible refine Kd.C_drewN ?_ _) | (with_reducible refine Kd.C_drew ?_))); (case side2 => exact HC3.out); rintro e w' ⟨rfl, ⟨nd, rfl⟩⟩))
                        go_roundg k2
                        case measure => have := HJ6.out; have := HK2.out; omega
                        case rel => exact ⟨(wrap64 (x11_2 + 1)), (by first | rfl | (simp; done) | (simp [*]; done)), H', ⟨by have := HJ6.out; have := HK2.out; omega⟩, ⟨by (with_reducible repeat (first | apply Kd.R_alloc | apply Kd.R_drewN | apply Kd.R_drew)); exact HO_9.out⟩, ⟨by (with_reducible repeat (first | apply Kd.R_alloc | apply Kd.R_drewN | apply Kd.R_drew)); exact HO_10.out⟩, ⟨by repeat (first | (with_reducible first | exact HB.out | apply below_alloc | apply pw_below_drewN | apply below_drew1) | exact HB.out)⟩⟩
                      · replace c25 := Bool.eq_false_iff.mpr c25
                        subst c25
                        have H1 : (some false) = some r := by rw [if_neg (show ¬ (false = true) by decide)] at H; exact H
                        clear H
                        have H := H1
                        clear H1
                        obtain rfl := Option.some.inj H
                        have p316 : 0 ≤ (x11_2 : Int) := of_decide_eq_true (by first | (with_reducible assumption) | assumption)
                        have q316 : x11_2 < (t310.length : Int) := of_decide_eq_true (by first | (with_reducible assumption) | assumption)
                        obtain ⟨ad316, e316, hx316_0, hx316_1, hx316_2, hx316_3, hx316_4⟩ := at_T36 (Kd.R_reads' HO_9.out).2.2 x11_2 p316 q316
                        cases e316
                        replace p316 := eq_true p316
                        replace q316 := eq_true q316
                        have p317 : 0 ≤ (x11_2 : Int) := of_decide_eq_true (by first | (with_reducible assumption) | assumption)
                        have q317 : x11_2 < (t310.length : Int) := of_decide_eq_true (by first | (with_reducible assumption) | assumption)
                        obtain ⟨ad317, e317, hx317_0, hx317_1, hx317_2, hx317_3, hx317_4⟩ := at_T36 (Kd.R_reads' HO_9.out).2.2 x11_2 p317 q317
                        obtain rfl : ad316 = ad317 := (by injection e317)
                        replace p317 := eq_true p317
                        replace q317 := eq_true q317
                        have p318 : 0 ≤ (x11_2 : Int) := of_decide_eq_true (by first | (with_reducible assumption) | assumption)
                        have q318 : x11_2 < (t310.length : Int) := of_decide_eq_true (by first | (with_reducible assumption) | assumption)
                        obtain ⟨ad318, e318, hx318_0, hx318_1, hx318_2, hx318_3, hx318_4⟩ := at_T36 (Kd.R_reads' HO_9.out).2.2 x11_2 p318 q318
                        obtain rfl : ad316 = ad318 := (by injection e318)
                        replace p318 := eq_true p318
                        replace q318 := eq_true q318
                        go_wp2_with (first | (go_at_call 12; (with_reducible refine (tocsinref22_Has.calls k2 _ _ l3 ((rd_T36 t310 x11_2).f1) false _ ?side1 ?side2 A24.out).mono ?_); (case side1 => repeat (first | exact (Kd.C_below HR3.out HB.out) | (with_reducible refine Kd.C_alloc ?_ _) | (with_reducible refine Kd.C_drewN ?_ _) | (with_reducible refine Kd.C_drew ?_))); (case side2 => exact HC3.out); rintro e w' ⟨rfl, ⟨nd, rfl⟩⟩))
                        go_ret
                        exact ⟨by first | rfl | (simp [errW_none, errW_some] <;> rfl) | (simp only [Opn.bne_nil, Opn.beq_nil]; done) | (simp [Opn.bne_nil, Opn.beq_nil]; done) | (simp [*, errW_none, errW_some] <;> rfl), by repeat (first | (with_reducible first | exact HB.out | apply below_alloc | apply pw_below_drewN | apply below_drew1) | exact HB.out)⟩
                    · rw [if_neg c23] at H
                      have c23b0 : (((rd_T36 t310 x11_2).f4) == (-1)) = false := beq_eq_false_iff_ne.mpr c23
                      have c23b1 : (((rd_T36 t310 x11_2).f4) != (-1)) = true := bne_iff_ne.mpr c23
                      obtain rfl := Option.some.inj H
                      have p316 : 0 ≤ (x11_2 : Int) := of_decide_eq_true (by first | (with_reducible assumption) | assumption)
                      have q316 : x11_2 < (t310.length : Int) := of_decide_eq_true (by first | (with_reducible assumption) | assumption)
                      obtain ⟨ad316, e316, hx316_0, hx316_1, hx316_2, hx316_3, hx316_4⟩ := at_T36 (Kd.R_reads' HO_9.out).2.2 x11_2 p316 q316
                      cases e316
                      replace p316 := eq_true p316
                      replace q316 := eq_true q316
                      have p317 : 0 ≤ (x11_2 : Int) := of_decide_eq_true (by first | (with_reducible assumption) | assumption)
                      have q317 : x11_2 < (t310.length : Int) := of_decide_eq_true (by first | (with_reducible assumption) | assumption)
                      obtain ⟨ad317, e317, hx317_0, hx317_1, hx317_2, hx317_3, hx317_4⟩ := at_T36 (Kd.R_reads' HO_9.out).2.2 x11_2 p317 q317
                      obtain rfl : ad316 = ad317 := (by injection e317)
                      replace p317 := eq_true p317
                      replace q317 := eq_true q317
                      go_wp2
                      go_ret
                      exact ⟨by first | rfl | (simp [errW_none, errW_some] <;> rfl) | (simp only [Opn.bne_nil, Opn.beq_nil]; done) | (simp [Opn.bne_nil, Opn.beq_nil]; done) | (simp [*, errW_none, errW_some] <;> rfl), by repeat (first | (with_reducible first | exact HB.out | apply below_alloc | apply pw_below_drewN | apply below_drew1) | exact HB.out)⟩
                  · rw [if_neg c22] at H
                    have c22b0 : (((rd_T36 t310 x11_2).f3) == a2) = false := beq_eq_false_iff_ne.mpr c22
                    have c22b1 : (((rd_T36 t310 x11_2).f3) != a2) = true := bne_iff_ne.mpr c22
                    obtain rfl := Option.some.inj H
                    have p316 : 0 ≤ (x11_2 : Int) := of_decide_eq_true (by first | (with_reducible assumption) | assumption)
                    have q316 : x11_2 < (t310.length : Int) := of_decide_eq_true (by first | (with_reducible assumption) | assumption)
                    obtain ⟨ad316, e316, hx316_0, hx316_1, hx316_2, hx316_3, hx316_4⟩ := at_T36 (Kd.R_reads' HO_9.out).2.2 x11_2 p316 q316
                    cases e316
                    replace p316 := eq_true p316
                    replace q316 := eq_true q316
                    go_wp2
                    go_ret
                    exact ⟨by first | rfl | (simp [errW_none, errW_some] <;> rfl) | (simp only [Opn.bne_nil, Opn.beq_nil]; done) | (simp [Opn.bne_nil, Opn.beq_nil]; done) | (simp [*, errW_none, errW_some] <;> rfl), by repeat (first | (with_reducible first | exact HB.out | apply below_alloc | apply pw_below_drewN | apply below_drew1) | exact HB.out)⟩
                · rw [if_neg c21] at H
                  exact absurd H (by simp)
              · rw [if_neg c20] at H
                have c20b0 : decide (x11_2 < (t310.length : Int)) = false := decide_eq_false c20
                clear c20
                have H' := Aside0.mk H
                clear H
                go_wp2
                go_loopg [12] k2 (fun kq v12 w' => ∃ (x12_3 : Int), v12 = .int .i64 x12_3 ∧ Aside0 (tocsinlaw22_AlertsAtOnce.l1 kq a1 l3 t310 t313 x12_3 = some r) ∧ Aside0 (kq ≤ k2) ∧ Aside0 (Kd.R k36 36 w' w.heap.size (fun _ => True) (.slice Ao18 t310.length co18) t310) ∧ Aside0 (Kd.R Kd.string 9 w' w.heap.size (fun _ => True) v314 t313) ∧ Aside0 (Below w.heap.size w w'))
                case atStart => exact ⟨(0), (by first | rfl | (simp; done) | (simp [*]; done)), H', ⟨Nat.le_refl _⟩, ⟨by (with_reducible repeat (first | apply Kd.R_alloc | apply Kd.R_drewN | apply Kd.R_drew)); exact HO_9.out⟩, ⟨by (with_reducible repeat (first | apply Kd.R_alloc | apply Kd.R_drewN | apply Kd.R_drew)); exact HO_10.out⟩, ⟨by repeat (first | (with_reducible first | exact HB.out | apply below_alloc | apply pw_below_drewN | apply below_drew1) | exact HB.out)⟩⟩
                case round =>
                  clear H'
                  try clear c1
                  try clear c2
                  try clear p2
                  try clear c3
                  try clear p3
                  try clear q3
                  try clear hx3
                  try clear c6
                  try clear p6
                  try clear c7
                  try clear c8
                  try clear c10
                  try clear c11
                  try clear c12
                  try clear c13
                  try clear c14
                  try clear c16
                  try clear c20
                  try clear c20b0
                  try clear c21
                  try clear c21b0
                  try clear c22
                  try clear c22b0
                  try clear c22b1
                  try clear c23
                  try clear c23b0
                  try clear c23b1
                  try clear c25
                  try clear hx316_0
                  try clear hx316_1
                  try clear hx316_2
                  try clear hx316_3
                  try clear hx316_4
                  try clear hx317_0
                  try clear hx317_1
                  try clear hx317_2
                  try clear hx317_3
                  try clear hx317_4
                  try clear hx318_0
                  try clear hx318_1
                  try clear hx318_2
                  try clear hx318_3
                  try clear hx318_4
                  try clear p2
                  try clear p316
                  try clear p317
                  try clear p318
                  try clear q316
                  try clear q317
                  try clear q318
                  obtain ⟨x12_3, rfl, HA, HK3, HO_9, HO_10, HB⟩ := hrel
                  cases gk with
                  | zero => exact absurd HA.out (by simp [tocsinlaw22_AlertsAtOnce.l1])
                  | succ k3 =>
                    have H := HA.out
                    clear HA
                    simp only [tocsinlaw22_AlertsAtOnce.l1] at H
                    by_cases c26 : x12_3 < (l3.length : Int)
                    · rw [if_pos c26] at H
                      have c26b0 : decide (x12_3 < (l3.length : Int)) = true := decide_eq_true c26
                      clear c26
                      by_cases c27 : 0 ≤ x12_3
                      · rw [if_pos c27] at H
                        have c27b0 : decide (0 ≤ x12_3) = true := decide_eq_true c27
                        clear c27
                        replace H := Option.bind_eq_some_iff.mp H
                        obtain ⟨t321, A280, H⟩ := H
                        replace H : (if (t321 != (decide (a1 ≤ 0))) = true then (some false) else (tocsinlaw22_AlertsAtOnce.l1 k3 a1 l3 t310 t313 (wrap64 (x12_3 + 1)))) = some r := H
                        have A28 := Aside0.mk A280
                        clear A280
                        by_cases c29 : (t321 != (decide (a1 ≤ 0))) = true
                        · rw [if_pos c29] at H
                          have c29b0 : (t321 != (decide (a1 ≤ 0))) = true := c29
                          (try (have c29b1 : decide (t321 = (decide (a1 ≤ 0))) = false := by simpa using c29))
                          (try (have c29b2 : (t321 == (decide (a1 ≤ 0))) = false := by simpa using c29))
                          (try (have c29b3 : ¬ (t321 = (decide (a1 ≤ 0))) := by simpa using c29))
                          clear c29
                          obtain rfl := Option.some.inj H
                          have p320 : 0 ≤ (x12_3 : Int) := of_decide_eq_true (by first | (with_reducible assumption) | assumption)
                          have q320 : x12_3 < (l3.length : Int) := of_decide_eq_true (by first | (with_reducible assumption) | assumption)
                          obtain ⟨ad320, e320, hx320_0⟩ := Kd.at_string HR3.out x12_3 p320 q320
                          cases e320
                          replace hx320_0 := (HB.out.cell (World.block_lt_of_cell? w _ hx320_0)).trans hx320_0
                          replace p320 := eq_true p320
                          replace q320 := eq_true q320
                          obtain ⟨Ao30, co30, eo30⟩ := Kd.R_slice HO_10.out
                          subst eo30
                          go_wp2_with (first | ((with_reducible refine gate_callee (f := 12) rfl ?_); refine goesL_ (some 76) rfl rfl Try.func12 (by kernel_rfl) rfl #[.slice Ao30 t313.length co30, .string (rdOf ByteArray.empty l3 x12_3)] rfl (by (try simp only [List.map_toArray, List.map_cons, List.map_nil]); first | done | rfl | (simp only [List.length_drop, List.length_take]; rfl)) ?_; (with_reducible refine (tocsinref22_Has.calls k3 _ _ t313 (rdOf ByteArray.empty l3 x12_3) t321 _ ?side1 ?side2 A28.out).mono ?_); (case side1 => repeat (first | exact (Kd.R_reads' HO_10.out).2.2 | (with_reducible refine Kd.C_alloc ?_ _) | (with_reducible refine Kd.C_drewN ?_ _) | (with_reducible refine Kd.C_drew ?_))); (case side2 => exact (Kd.R_reads' HO_10.out).2.1); rintro e w' ⟨rfl, ⟨nd, rfl⟩⟩; refine ⟨_, rfl, ?_⟩))
                          go_ret
                          exact ⟨by first | rfl | (simp [errW_none, errW_some] <;> rfl) | (simp only [Opn.bne_nil, Opn.beq_nil]; done) | (simp [Opn.bne_nil, Opn.beq_nil]; done) | (simp [*, errW_none, errW_some] <;> rfl), by repeat (first | (with_reducible first | exact HB.out | apply below_alloc | apply pw_below_drewN | apply below_drew1) | exact HB.out)⟩
                        · rw [if_neg c29] at H
                          have c29b0 : (t321 != (decide (a1 ≤ 0))) = false := by simpa using c29
                          (try (have c29b1 : decide (t321 = (decide (a1 ≤ 0))) = true := by simpa using c29))
                          (try (have c29b2 : (t321 == (decide (a1 ≤ 0))) = true := by simpa using c29))
                          clear c29
                          have H' := Aside0.mk H
                          clear H
                          have p320 : 0 ≤ (x12_3 : Int) := of_decide_eq_true (by first | (with_reducible assumption) | assumption)
                          have q320 : x12_3 < (l3.length : Int) := of_decide_eq_true (by first | (with_reducible assumption) | assumption)
                          obtain ⟨ad320, e320, hx320_0⟩ := Kd.at_string HR3.out x12_3 p320 q320
                          cases e320
                          replace hx320_0 := (HB.out.cell (World.block_lt_of_cell? w _ hx320_0)).trans hx320_0
                          replace p320 := eq_true p320
                          replace q320 := eq_true q320
                          obtain ⟨Ao31, co31, eo31⟩ := Kd.R_slice HO_10.out
                          subst eo31
                          go_wp2_with (first | ((with_reducible refine gate_callee (f := 12) rfl ?_); refine goesL_ (some 76) rfl rfl Try.func12 (by kernel_rfl) rfl #[.slice Ao31 t313.length co31, .string (rdOf ByteArray.empty l3 x12_3)] rfl (by (try simp only [List.map_toArray, List.map_cons, List.map_nil]); first | done | rfl | (simp only [List.length_drop, List.length_take]; rfl)) ?_; (with_reducible refine (tocsinref22_Has.calls k3 _ _ t313 (rdOf ByteArray.empty l3 x12_3) t321 _ ?side1 ?side2 A28.out).mono ?_); (case side1 => repeat (first | exact (Kd.R_reads' HO_10.out).2.2 | (with_reducible refine Kd.C_alloc ?_ _) | (with_reducible refine Kd.C_drewN ?_ _) | (with_reducible refine Kd.C_drew ?_))); (case side2 => exact (Kd.R_reads' HO_10.out).2.1); rintro e w' ⟨rfl, ⟨nd, rfl⟩⟩; refine ⟨_, rfl, ?_⟩))
                          go_roundg k3
                          case measure => have := HJ6.out; have := HK2.out; have := HK3.out; omega
                          case rel => exact ⟨(wrap64 (x12_3 + 1)), (by first | rfl | (simp; done) | (simp [*]; done)), H', ⟨by have := HJ6.out; have := HK2.out; have := HK3.out; omega⟩, ⟨by (with_reducible repeat (first | apply Kd.R_alloc | apply Kd.R_drewN | apply Kd.R_drew)); exact HO_9.out⟩, ⟨by (with_reducible repeat (first | apply Kd.R_alloc | apply Kd.R_drewN | apply Kd.R_drew)); exact HO_10.out⟩, ⟨by repeat (first | (with_reducible first | exact HB.out | apply below_alloc | apply pw_below_drewN | apply below_drew1) | exact HB.out)⟩⟩
                      · rw [if_neg c27] at H
                        exact absurd H (by simp)
                    · rw [if_neg c26] at H
                      have c26b0 : decide (x12_3 < (l3.length : Int)) = false := decide_eq_false c26
                      clear c26
                      by_cases c32 : a1 > 0
                      · rw [if_pos c32] at H
                        have c32b0 : decide (0 < a1) = true := decide_eq_true c32
                        clear c32
                        by_cases c33 : (t313.length : Int) = 0
                        · rw [if_pos c33] at H
                          have c33b0 : ((t313.length : Int) == 0) = true := beq_iff_eq.mpr c33
                          have c33b1 : ((t313.length : Int) != 0) = false := bne_eq_false_iff_eq.mpr c33
                          clear c33
                          obtain rfl := Option.some.inj H
                          obtain ⟨Ao34, co34, eo34⟩ := Kd.R_slice HO_10.out
                          subst eo34
                          go_wp2
                          go_ret
                          exact ⟨by first | rfl | (simp [errW_none, errW_some] <;> rfl) | (simp only [Opn.bne_nil, Opn.beq_nil]; done) | (simp [Opn.bne_nil, Opn.beq_nil]; done) | (simp [*, errW_none, errW_some] <;> rfl), by repeat (first | (with_reducible first | exact HB.out | apply below_alloc | apply pw_below_drewN | apply below_drew1) | exact HB.out)⟩
                        · rw [if_neg c33] at H
                          have c33b0 : ((t313.length : Int) == 0) = false := beq_eq_false_iff_ne.mpr c33
                          have c33b1 : ((t313.length : Int) != 0) = true := bne_iff_ne.mpr c33
                          have c33b2 : ¬ (t313 = []) := fun h_ => c33 (by rw [h_]; rfl)
                          by_cases c35 : a1 ≤ 0
                          · rw [if_pos c35] at H
                            have c35b0 : decide (a1 ≤ 0) = true := decide_eq_true c35
                            clear c35
                            obtain rfl := Option.some.inj H
                            obtain ⟨Ao36, co36, eo36⟩ := Kd.R_slice HO_10.out
                            subst eo36
                            go_wp2
                            go_ret
                            exact ⟨by first | rfl | (simp [errW_none, errW_some] <;> rfl) | (simp only [Opn.bne_nil, Opn.beq_nil]; done) | (simp [Opn.bne_nil, Opn.beq_nil]; done) | (simp [*, errW_none, errW_some] <;> rfl), by repeat (first | (with_reducible first | exact HB.out | apply below_alloc | apply pw_below_drewN | apply below_drew1) | exact HB.out)⟩
                          · rw [if_neg c35] at H
                            have c35b0 : decide (a1 ≤ 0) = false := decide_eq_false c35
                            clear c35
                            obtain rfl := Option.some.inj H
                            obtain ⟨Ao37, co37, eo37⟩ := Kd.R_slice HO_10.out
                            subst eo37
                            go_wp2
                            go_ret
                            exact ⟨by first | rfl | (simp [errW_none, errW_some] <;> rfl) | (simp only [Opn.bne_nil, Opn.beq_nil]; done) | (simp [Opn.bne_nil, Opn.beq_nil]; done) | (simp [*, errW_none, errW_some] <;> rfl), by repeat (first | (with_reducible first | exact HB.out | apply below_alloc | apply pw_below_drewN | apply below_drew1) | exact HB.out)⟩
                      · rw [if_neg c32] at H
                        have c32b0 : decide (0 < a1) = false := decide_eq_false c32
                        clear c32
                        by_cases c38 : a1 ≤ 0
                        · rw [if_pos c38] at H
                          have c38b0 : decide (a1 ≤ 0) = true := decide_eq_true c38
                          clear c38
                          obtain rfl := Option.some.inj H
                          obtain ⟨Ao39, co39, eo39⟩ := Kd.R_slice HO_10.out
                          subst eo39
                          go_wp2
                          go_ret
                          exact ⟨by first | rfl | (simp [errW_none, errW_some] <;> rfl) | (simp only [Opn.bne_nil, Opn.beq_nil]; done) | (simp [Opn.bne_nil, Opn.beq_nil]; done) | (simp [*, errW_none, errW_some] <;> rfl), by repeat (first | (with_reducible first | exact HB.out | apply below_alloc | apply pw_below_drewN | apply below_drew1) | exact HB.out)⟩
                        · rw [if_neg c38] at H
                          have c38b0 : decide (a1 ≤ 0) = false := decide_eq_false c38
                          clear c38
                          obtain rfl := Option.some.inj H
                          go_wp2
                          go_ret
                          exact ⟨by first | rfl | (simp [errW_none, errW_some] <;> rfl) | (simp only [Opn.bne_nil, Opn.beq_nil]; done) | (simp [Opn.bne_nil, Opn.beq_nil]; done) | (simp [*, errW_none, errW_some] <;> rfl), by repeat (first | (with_reducible first | exact HB.out | apply below_alloc | apply pw_below_drewN | apply below_drew1) | exact HB.out)⟩
  · replace c6 := Bool.eq_false_iff.mpr c6
    subst c6
    have H1 : (some false) = some r := by rw [if_neg (show ¬ (false = true) by decide)] at H; exact H
    clear H
    have H := H1
    clear H1
    obtain rfl := Option.some.inj H
    go_enter Try.func7, Try.ntmps7
    go_wp2_with (first | ((with_reducible refine gate_callee (f := 8) rfl ?_); refine goesL_ (some 13) rfl rfl Try.func8 (by kernel_rfl) rfl #[] rfl (by (try simp only [List.map_toArray, List.map_cons, List.map_nil]); first | done | rfl | (simp only [List.length_drop, List.length_take]; rfl)) ?_; (with_reducible refine (tocsinlaw22_awake.calls k  false _ A5.out).mono ?_); rintro e w40 ⟨rfl, hb⟩; refine ⟨_, rfl, ?_⟩; have n0_ := Aside0.mk (below_step (by repeat (first | (with_reducible first | exact HB.out | apply below_alloc | apply pw_below_drewN | apply below_drew1) | exact HB.out)) hb); clear HB; have HB := n0_; clear n0_; (try clear hb); (try clear hb2); (try clear hk); (try clear hi)))
    go_ret
    exact ⟨by first | rfl | (simp [errW_none, errW_some] <;> rfl) | (simp only [Opn.bne_nil, Opn.beq_nil]; done) | (simp [Opn.bne_nil, Opn.beq_nil]; done) | (simp [*, errW_none, errW_some] <;> rfl), by repeat (first | (with_reducible first | exact HB.out | apply below_alloc | apply pw_below_drewN | apply below_drew1) | exact HB.out)⟩

/-- THE ONE PURE STATEMENT of tocsinlaw22_AlertsAtOnce: ours to prove. -/
def tocsinlaw22_AlertsAtOnce.Pure : Prop := ∀ (a0 : Int) (a1 : Int) (a2 : Int) (l3 : List ByteArray), (Lit.int .u32 a0).wf = true → (Lit.int .i64 a1).wf = true → (Lit.int .i64 a2).wf = true → l3.length ≤ 9223372036854775807 → l3.length * 16 ≤ 140737488351232 → (∀ y ∈ l3, y.size ≤ 9223372036854775807) → ∃ k, tocsinlaw22_AlertsAtOnce.f k a0 a1 a2 l3 = some true

end Go.Proofs.Ytgfkdcckifdcpaa.Q

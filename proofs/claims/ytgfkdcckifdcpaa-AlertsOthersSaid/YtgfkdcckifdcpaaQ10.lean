/- Functions of the program as plain Lean functions, each with the proof that its call comes to just these answers: written by a program of this session (wip/tools/printg.py over the kit's print) for this claim. -/
import Derived.Test.YtgfkdcckifdcpaaQ10D
import Derived.Test.YtgfkdcckifdcpaaQ0
import Derived.Test.YtgfkdcckifdcpaaQ2
import Derived.Test.YtgfkdcckifdcpaaQ3
import Derived.Test.YtgfkdcckifdcpaaQ4
import Derived.Test.YtgfkdcckifdcpaaQ5
import Derived.Test.YtgfkdcckifdcpaaQ7
import Derived.Test.YtgfkdcckifdcpaaQ9
namespace Go.Proofs.Ytgfkdcckifdcpaa.Q
open Go.RowKit Go.Proofs.YtgfkdcckifdcpaaW.PrintWords Go.Proofs.YtgfkdcckifdcpaaW.PrintLast Go.Proofs.YtgfkdcckifdcpaaW.PrintMore
attribute [local go_sem] Opn.str_leq Opn.str_gtr Opn.str_geq max2_int min2_int max_two min_two max_three min_three max_four min_four   -- for this text's walks alone
set_option linter.unusedVariables false
set_option linter.unusedSimpArgs false

set_option maxHeartbeats 200000000 in
set_option maxRecDepth 100000 in
theorem tocsinlaw22_AlertsOthers.calls (k : Nat) (A0 : Option Addr) (c0 : Nat) (l0 : List (S36)) (a1 : Int) (a2 : Int) (a3 : Int) (a4 : Int) (A5 : Option Addr) (c5 : Nat) (l5 : List ByteArray) (r : Bool) (w : World) (hr0 : Kd.C k36 w A0 l0.length l0) (hc0 : l0.length ≤ c0) (hr5 : Kd.C Kd.string w A5 l5.length l5) (hc5 : l5.length ≤ c5) (h : tocsinlaw22_AlertsOthers.f k l0 a1 a2 a3 a4 l5 = some r) :
  Calls Try.prog 5 #[.slice A0 l0.length c0, .int .u32 a1, .int .i64 a2, .int .i64 a3, .int .i64 a4, .slice A5 l5.length c5] w fun e w' => e = .returned (.bool r) ∧ Below w.heap.size w w' := by
 have hu36 := Try.underlying36
 have HR0 := Aside0.mk hr0
 have HC0 := Aside0.mk hc0
 clear hr0 hc0
 have HR5 := Aside0.mk hr5
 have HC5 := Aside0.mk hc5
 clear hr5 hc5
 have HB := Aside0.mk (Below.refl w.heap.size w)
 have H : ((tocsinlaw22_awake.f k).bind fun t228 => (if t228 = true then ((tocsinlaw22_great.f k l0 l5).bind fun t229 => (if t229 = true then (tocsinlaw22_AlertsOthers.j0 k l0 a1 a2 a3 a4 l5 true) else ((tocsinlaw22_small.f a2).bind fun t230 => (if t230 = true then ((tocsinlaw22_small.f a3).bind fun t231 => (if t231 = true then ((tocsinlaw22_small.f a4).bind fun t232 => (tocsinlaw22_AlertsOthers.j0 k l0 a1 a2 a3 a4 l5 (!t232))) else (tocsinlaw22_AlertsOthers.j0 k l0 a1 a2 a3 a4 l5 true))) else (tocsinlaw22_AlertsOthers.j0 k l0 a1 a2 a3 a4 l5 true))))) else (some false))) = some r := h
 clear h
 replace H := Option.bind_eq_some_iff.mp H
 obtain ⟨t228, A70, H⟩ := H
 replace H : (if t228 = true then ((tocsinlaw22_great.f k l0 l5).bind fun t229 => (if t229 = true then (tocsinlaw22_AlertsOthers.j0 k l0 a1 a2 a3 a4 l5 true) else ((tocsinlaw22_small.f a2).bind fun t230 => (if t230 = true then ((tocsinlaw22_small.f a3).bind fun t231 => (if t231 = true then ((tocsinlaw22_small.f a4).bind fun t232 => (tocsinlaw22_AlertsOthers.j0 k l0 a1 a2 a3 a4 l5 (!t232))) else (tocsinlaw22_AlertsOthers.j0 k l0 a1 a2 a3 a4 l5 true))) else (tocsinlaw22_AlertsOthers.j0 k l0 a1 a2 a3 a4 l5 true))))) else (some false)) = some r := H
 have A7 := Aside0.mk A70
 clear A70
 by_cases c8 : t228 = true
 ·subst c8
  have H1 : ((tocsinlaw22_great.f k l0 l5).bind fun t229 => (if t229 = true then (tocsinlaw22_AlertsOthers.j0 k l0 a1 a2 a3 a4 l5 true) else ((tocsinlaw22_small.f a2).bind fun t230 => (if t230 = true then ((tocsinlaw22_small.f a3).bind fun t231 => (if t231 = true then ((tocsinlaw22_small.f a4).bind fun t232 => (tocsinlaw22_AlertsOthers.j0 k l0 a1 a2 a3 a4 l5 (!t232))) else (tocsinlaw22_AlertsOthers.j0 k l0 a1 a2 a3 a4 l5 true))) else (tocsinlaw22_AlertsOthers.j0 k l0 a1 a2 a3 a4 l5 true))))) = some r := by rw [if_pos rfl] at H; exact H
  clear H; have H := H1; clear H1
  have HC9 := Aside0.mk H
  clear H
  go_enter Try.func5, Try.ntmps5
  go_upto_region 3 with (first | ((with_reducible refine gate_callee (f := 8) rfl ?_); refine goesL_ (some 21) rfl rfl Try.func8 (by kernel_rfl) rfl #[] rfl (by (try simp only [List.map_toArray, List.map_cons, List.map_nil]); first | done | rfl | (simp only [List.length_drop, List.length_take]; rfl)) ?_; (with_reducible refine (tocsinlaw22_awake.calls k  true _ A7.out).mono ?_); rintro e w10 ⟨rfl, hb⟩; refine ⟨_, rfl, ?_⟩; have n0_ := Aside0.mk (below_step (by repeat (first | (with_reducible first | exact HB.out | apply below_alloc | apply pw_below_drewN | apply below_drew1) | exact HB.out)) hb); clear HB; have HB := n0_; clear n0_; (try clear hb); (try clear hb2); (try clear hk); (try clear hi)))
  (try simp only [Act.put, List.setIfInBounds_toArray, List.set_cons_zero, List.set_cons_succ])
  go_cut [40] (fun v40 wc => ∃ (kq : Nat) (x40_8 : Bool), v40 = .bool x40_8 ∧ Aside0 (tocsinlaw22_AlertsOthers.j0 kq l0 a1 a2 a3 a4 l5 x40_8 = some r) ∧ Aside0 (kq ≤ k) ∧ Aside0 (Below w.heap.size w wc))
  case first =>
   have H := HC9.out
   clear HC9
   replace H := Option.bind_eq_some_iff.mp H
   obtain ⟨t229, A110, H⟩ := H
   replace H : (if t229 = true then (tocsinlaw22_AlertsOthers.j0 k l0 a1 a2 a3 a4 l5 true) else ((tocsinlaw22_small.f a2).bind fun t230 => (if t230 = true then ((tocsinlaw22_small.f a3).bind fun t231 => (if t231 = true then ((tocsinlaw22_small.f a4).bind fun t232 => (tocsinlaw22_AlertsOthers.j0 k l0 a1 a2 a3 a4 l5 (!t232))) else (tocsinlaw22_AlertsOthers.j0 k l0 a1 a2 a3 a4 l5 true))) else (tocsinlaw22_AlertsOthers.j0 k l0 a1 a2 a3 a4 l5 true)))) = some r := H
   have A11 := Aside0.mk A110
   clear A110
   by_cases c12 : t229 = true
   ·subst c12
    have H1 : (tocsinlaw22_AlertsOthers.j0 k l0 a1 a2 a3 a4 l5 true) = some r := by rw [if_pos rfl] at H; exact H
    clear H; have H := H1; clear H1
    have H' := Aside0.mk H
    clear H
    go_wp2_with (first | ((with_reducible refine gate_callee (f := 13) rfl ?_); refine goesL_ (some 25) rfl rfl Try.func13 (by kernel_rfl) rfl #[.slice A0 l0.length c0, .slice A5 l5.length c5] rfl (by (try simp only [List.map_toArray, List.map_cons, List.map_nil]); first | done | rfl | (simp only [List.length_drop, List.length_take]; rfl)) ?_; (with_reducible refine (tocsinlaw22_great.calls k _ _ l0 _ _ l5 true _ ?side1 ?side2 ?side3 ?side4 A11.out).mono ?_); (case side1 => repeat (first | exact (Kd.C_below HR0.out HB.out) | (with_reducible refine Kd.C_alloc ?_ _) | (with_reducible refine Kd.C_drewN ?_ _) | (with_reducible refine Kd.C_drew ?_))); (case side2 => exact HC0.out); (case side3 => repeat (first | exact (Kd.C_below HR5.out HB.out) | (with_reducible refine Kd.C_alloc ?_ _) | (with_reducible refine Kd.C_drewN ?_ _) | (with_reducible refine Kd.C_drew ?_))); (case side4 => exact HC5.out); rintro e w' ⟨rfl, ⟨nd, rfl⟩⟩; refine ⟨_, rfl, ?_⟩))
    go_meet
    case rel => exact ⟨_, (true), (by first | rfl | (simp; done) | (simp [*]; done)), H', ⟨by first | omega | exact Nat.le_refl _⟩, ⟨by repeat (first | (with_reducible first | exact HB.out | apply below_alloc | apply pw_below_drewN | apply below_drew1) | exact HB.out)⟩⟩
   ·replace c12 := Bool.eq_false_iff.mpr c12
    subst c12
    have H1 : ((tocsinlaw22_small.f a2).bind fun t230 => (if t230 = true then ((tocsinlaw22_small.f a3).bind fun t231 => (if t231 = true then ((tocsinlaw22_small.f a4).bind fun t232 => (tocsinlaw22_AlertsOthers.j0 k l0 a1 a2 a3 a4 l5 (!t232))) else (tocsinlaw22_AlertsOthers.j0 k l0 a1 a2 a3 a4 l5 true))) else (tocsinlaw22_AlertsOthers.j0 k l0 a1 a2 a3 a4 l5 true))) = some r := by rw [if_neg (show ¬ (false = true) by decide)] at H; exact H
    clear H; have H := H1; clear H1
    replace H := Option.bind_eq_some_iff.mp H
    obtain ⟨t230, A130, H⟩ := H
    replace H : (if t230 = true then ((tocsinlaw22_small.f a3).bind fun t231 => (if t231 = true then ((tocsinlaw22_small.f a4).bind fun t232 => (tocsinlaw22_AlertsOthers.j0 k l0 a1 a2 a3 a4 l5 (!t232))) else (tocsinlaw22_AlertsOthers.j0 k l0 a1 a2 a3 a4 l5 true))) else (tocsinlaw22_AlertsOthers.j0 k l0 a1 a2 a3 a4 l5 true)) = some r := H
    have A13 := Aside0.mk A130
    clear A130
    by_cases c14 : t230 = true
    ·subst c14
     have H1 : ((tocsinlaw22_small.f a3).bind fun t231 => (if t231 = true then ((tocsinlaw22_small.f a4).bind fun t232 => (tocsinlaw22_AlertsOthers.j0 k l0 a1 a2 a3 a4 l5 (!t232))) else (tocsinlaw22_AlertsOthers.j0 k l0 a1 a2 a3 a4 l5 true))) = some r := by rw [if_pos rfl] at H; exact H
     clear H; have H := H1; clear H1
     replace H := Option.bind_eq_some_iff.mp H
     obtain ⟨t231, A150, H⟩ := H
     replace H : (if t231 = true then ((tocsinlaw22_small.f a4).bind fun t232 => (tocsinlaw22_AlertsOthers.j0 k l0 a1 a2 a3 a4 l5 (!t232))) else (tocsinlaw22_AlertsOthers.j0 k l0 a1 a2 a3 a4 l5 true)) = some r := H
     have A15 := Aside0.mk A150
     clear A150
     by_cases c16 : t231 = true
     ·subst c16
      have H1 : ((tocsinlaw22_small.f a4).bind fun t232 => (tocsinlaw22_AlertsOthers.j0 k l0 a1 a2 a3 a4 l5 (!t232))) = some r := by rw [if_pos rfl] at H; exact H
      clear H; have H := H1; clear H1
      replace H := Option.bind_eq_some_iff.mp H
      obtain ⟨t232, A170, H⟩ := H
      replace H : (tocsinlaw22_AlertsOthers.j0 k l0 a1 a2 a3 a4 l5 (!t232)) = some r := H
      have A17 := Aside0.mk A170
      clear A170
      have H' := Aside0.mk H
      clear H
      go_wp2_with (first | ((with_reducible refine gate_callee (f := 13) rfl ?_); refine goesL_ (some 25) rfl rfl Try.func13 (by kernel_rfl) rfl #[.slice A0 l0.length c0, .slice A5 l5.length c5] rfl (by (try simp only [List.map_toArray, List.map_cons, List.map_nil]); first | done | rfl | (simp only [List.length_drop, List.length_take]; rfl)) ?_; (with_reducible refine (tocsinlaw22_great.calls k _ _ l0 _ _ l5 false _ ?side1 ?side2 ?side3 ?side4 A11.out).mono ?_); (case side1 => repeat (first | exact (Kd.C_below HR0.out HB.out) | (with_reducible refine Kd.C_alloc ?_ _) | (with_reducible refine Kd.C_drewN ?_ _) | (with_reducible refine Kd.C_drew ?_))); (case side2 => exact HC0.out); (case side3 => repeat (first | exact (Kd.C_below HR5.out HB.out) | (with_reducible refine Kd.C_alloc ?_ _) | (with_reducible refine Kd.C_drewN ?_ _) | (with_reducible refine Kd.C_drew ?_))); (case side4 => exact HC5.out); rintro e w' ⟨rfl, ⟨nd, rfl⟩⟩; refine ⟨_, rfl, ?_⟩) | (go_at_call 9; (with_reducible refine (tocsinlaw22_small.calls a2 true _ A13.out).mono ?_); rintro e w' ⟨rfl, ⟨nd, rfl⟩⟩) | (go_at_call 9; (with_reducible refine (tocsinlaw22_small.calls a3 true _ A15.out).mono ?_); rintro e w' ⟨rfl, ⟨nd, rfl⟩⟩) | (go_at_call 9; (with_reducible refine (tocsinlaw22_small.calls a4 t232 _ A17.out).mono ?_); rintro e w' ⟨rfl, ⟨nd, rfl⟩⟩))
      go_meet
      case rel => exact ⟨_, (!t232), (by first | rfl | (simp; done) | (simp [*]; done)), H', ⟨by first | omega | exact Nat.le_refl _⟩, ⟨by repeat (first | (with_reducible first | exact HB.out | apply below_alloc | apply pw_below_drewN | apply below_drew1) | exact HB.out)⟩⟩
     ·replace c16 := Bool.eq_false_iff.mpr c16
      subst c16
      have H1 : (tocsinlaw22_AlertsOthers.j0 k l0 a1 a2 a3 a4 l5 true) = some r := by rw [if_neg (show ¬ (false = true) by decide)] at H; exact H
      clear H; have H := H1; clear H1
      have H' := Aside0.mk H
      clear H
      go_wp2_with (first | ((with_reducible refine gate_callee (f := 13) rfl ?_); refine goesL_ (some 25) rfl rfl Try.func13 (by kernel_rfl) rfl #[.slice A0 l0.length c0, .slice A5 l5.length c5] rfl (by (try simp only [List.map_toArray, List.map_cons, List.map_nil]); first | done | rfl | (simp only [List.length_drop, List.length_take]; rfl)) ?_; (with_reducible refine (tocsinlaw22_great.calls k _ _ l0 _ _ l5 false _ ?side1 ?side2 ?side3 ?side4 A11.out).mono ?_); (case side1 => repeat (first | exact (Kd.C_below HR0.out HB.out) | (with_reducible refine Kd.C_alloc ?_ _) | (with_reducible refine Kd.C_drewN ?_ _) | (with_reducible refine Kd.C_drew ?_))); (case side2 => exact HC0.out); (case side3 => repeat (first | exact (Kd.C_below HR5.out HB.out) | (with_reducible refine Kd.C_alloc ?_ _) | (with_reducible refine Kd.C_drewN ?_ _) | (with_reducible refine Kd.C_drew ?_))); (case side4 => exact HC5.out); rintro e w' ⟨rfl, ⟨nd, rfl⟩⟩; refine ⟨_, rfl, ?_⟩) | (go_at_call 9; (with_reducible refine (tocsinlaw22_small.calls a2 true _ A13.out).mono ?_); rintro e w' ⟨rfl, ⟨nd, rfl⟩⟩) | (go_at_call 9; (with_reducible refine (tocsinlaw22_small.calls a3 false _ A15.out).mono ?_); rintro e w' ⟨rfl, ⟨nd, rfl⟩⟩))
      go_meet
      case rel => exact ⟨_, (true), (by first | rfl | (simp; done) | (simp [*]; done)), H', ⟨by first | omega | exact Nat.le_refl _⟩, ⟨by repeat (first | (with_reducible first | exact HB.out | apply below_alloc | apply pw_below_drewN | apply below_drew1) | exact HB.out)⟩⟩
    ·replace c14 := Bool.eq_false_iff.mpr c14
     subst c14
     have H1 : (tocsinlaw22_AlertsOthers.j0 k l0 a1 a2 a3 a4 l5 true) = some r := by rw [if_neg (show ¬ (false = true) by decide)] at H; exact H
     clear H; have H := H1; clear H1
     have H' := Aside0.mk H
     clear H
     go_wp2_with (first | ((with_reducible refine gate_callee (f := 13) rfl ?_); refine goesL_ (some 25) rfl rfl Try.func13 (by kernel_rfl) rfl #[.slice A0 l0.length c0, .slice A5 l5.length c5] rfl (by (try simp only [List.map_toArray, List.map_cons, List.map_nil]); first | done | rfl | (simp only [List.length_drop, List.length_take]; rfl)) ?_; (with_reducible refine (tocsinlaw22_great.calls k _ _ l0 _ _ l5 false _ ?side1 ?side2 ?side3 ?side4 A11.out).mono ?_); (case side1 => repeat (first | exact (Kd.C_below HR0.out HB.out) | (with_reducible refine Kd.C_alloc ?_ _) | (with_reducible refine Kd.C_drewN ?_ _) | (with_reducible refine Kd.C_drew ?_))); (case side2 => exact HC0.out); (case side3 => repeat (first | exact (Kd.C_below HR5.out HB.out) | (with_reducible refine Kd.C_alloc ?_ _) | (with_reducible refine Kd.C_drewN ?_ _) | (with_reducible refine Kd.C_drew ?_))); (case side4 => exact HC5.out); rintro e w' ⟨rfl, ⟨nd, rfl⟩⟩; refine ⟨_, rfl, ?_⟩) | (go_at_call 9; (with_reducible refine (tocsinlaw22_small.calls a2 false _ A13.out).mono ?_); rintro e w' ⟨rfl, ⟨nd, rfl⟩⟩))
     go_meet
     case rel => exact ⟨_, (true), (by first | rfl | (simp; done) | (simp [*]; done)), H', ⟨by first | omega | exact Nat.le_refl _⟩, ⟨by repeat (first | (with_reducible first | exact HB.out | apply below_alloc | apply pw_below_drewN | apply below_drew1) | exact HB.out)⟩⟩
  case rest => as_aux_lemma =>
   clear HC9; try clear c1; try clear p2; try clear c5; try clear c8; try clear c12; try clear c13; try clear c14; try clear c16
   obtain ⟨kq, x40_8, rfl, HA, HJ8, HB⟩ := hcut
   cases kq with
   | zero => exact absurd HA.out (by simp [tocsinlaw22_AlertsOthers.j0])
   | succ kj8 =>
    have H := HA.out
    clear HA
    simp only [tocsinlaw22_AlertsOthers.j0] at H
    by_cases c18 : x40_8 = true
    ·subst c18
     have H1 : (some true) = some r := by rw [if_pos rfl] at H; exact H
     clear H; have H := H1; clear H1
     obtain rfl := Option.some.inj H
     go_wp2
     go_ret
     exact ⟨by first | rfl | (simp [errW_none, errW_some] <;> rfl) | (simp only [Opn.bne_nil, Opn.beq_nil]; done) | (simp [Opn.bne_nil, Opn.beq_nil]; done) | (simp [*, errW_none, errW_some] <;> rfl), by repeat (first | (with_reducible first | exact HB.out | apply below_alloc | apply pw_below_drewN | apply below_drew1) | exact HB.out)⟩
    ·replace c18 := Bool.eq_false_iff.mpr c18
     subst c18
     have H1 : (tocsinlaw22_AlertsOthers.l0 kj8 l0 a1 a2 a3 a4 l5 ([] : List (S36)) ([] : List (S36)) 0) = some r := by rw [if_neg (show ¬ (false = true) by decide)] at H; exact H
     clear H; have H := H1; clear H1
     have H' := Aside0.mk H
     clear H
     go_wp2
     go_loopg [13, 14, 15] kj8 (fun kq v13 v14 v15 w' => ∃ (x13_2 : List (S36)) (x14_2 : List (S36)) (x15_2 : Int), v15 = .int .i64 x15_2 ∧ Aside0 (tocsinlaw22_AlertsOthers.l0 kq l0 a1 a2 a3 a4 l5 x13_2 x14_2 x15_2 = some r) ∧ Aside0 (kq ≤ kj8) ∧ Aside0 (Kd.R k36 36 w' w.heap.size (fun k_ => some k_ ≠ (v14 : Value).ownBlock) v13 x13_2) ∧ Aside0 (Kd.R k36 36 w' w.heap.size (fun k_ => some k_ ≠ (v13 : Value).ownBlock) v14 x14_2) ∧ Aside0 (Below w.heap.size w w'))
     case atStart => exact ⟨(([] : List (S36))), (([] : List (S36))), (0), (by first | rfl | (simp; done) | (simp [*]; done)), H', ⟨Nat.le_refl _⟩, ⟨by first | exact Kd.R_nil _ _ _ _ _ | exact Kd.N_nil _ _ _ _ _ | exact Kd.V_nil _ _ _ _ _ | exact Kd.Q_nil _ _ _ _ _ | exact Kd.S_nil _ _ _ _ _⟩, ⟨by first | exact Kd.R_nil _ _ _ _ _ | exact Kd.N_nil _ _ _ _ _ | exact Kd.V_nil _ _ _ _ _ | exact Kd.Q_nil _ _ _ _ _ | exact Kd.S_nil _ _ _ _ _⟩, ⟨by repeat (first | (with_reducible first | exact HB.out | apply below_alloc | apply pw_below_drewN | apply below_drew1) | exact HB.out)⟩⟩
     case round => as_aux_lemma =>
      clear H'
      try clear c1; try clear p2; try clear c5; try clear c8; try clear c12; try clear c13; try clear c14; try clear c16; try clear c18; try clear p2
      obtain ⟨x13_2, x14_2, x15_2, rfl, HA, HK2, HO_13, HO_14, HB⟩ := hrel
      cases gk with
      | zero => exact absurd HA.out (by simp [tocsinlaw22_AlertsOthers.l0])
      | succ k2 =>
       have H := HA.out
       clear HA
       simp only [tocsinlaw22_AlertsOthers.l0] at H
       by_cases c19 : x15_2 < (l0.length : Int)
       ·rw [if_pos c19] at H
        have c19b0 : decide (x15_2 < (l0.length : Int)) = true := decide_eq_true c19
        clear c19
        have HC20 := Aside0.mk H
        clear H
        go_upto_region 9 with (fail)
        go_cut [62] (fun v62 wc => ∃ (kq : Nat) (x62_19 : Bool), v62 = .bool x62_19 ∧ Aside0 (tocsinlaw22_AlertsOthers.j2 kq l0 a1 a2 a3 a4 l5 x13_2 x14_2 x15_2 x62_19 = some r) ∧ Aside0 (kq ≤ k2) ∧ Aside0 (Kd.R k36 36 wc w.heap.size (fun k_ => some k_ ≠ (u14 : Value).ownBlock) u13 x13_2) ∧ Aside0 (Kd.R k36 36 wc w.heap.size (fun k_ => some k_ ≠ (u13 : Value).ownBlock) u14 x14_2) ∧ Aside0 (Below w.heap.size w wc))
        case first =>
         have H := HC20.out
         clear HC20
         by_cases c21 : 0 ≤ x15_2
         ·rw [if_pos c21] at H
          have c21b0 : decide (0 ≤ x15_2) = true := decide_eq_true c21
          clear c21
          (first | rw [c21b0] | (simp only [i64_w, i32_w]; rw [c21b0]) | skip)
          replace H := Option.bind_eq_some_iff.mp H
          obtain ⟨t234, A220, H⟩ := H
          replace H : (if t234 = true then ((tocsinlaw22_small.f ((rd_T36 l0 x15_2).f4)).bind fun t236 => (tocsinlaw22_AlertsOthers.j2 k2 l0 a1 a2 a3 a4 l5 x13_2 x14_2 x15_2 (!t236))) else (tocsinlaw22_AlertsOthers.j2 k2 l0 a1 a2 a3 a4 l5 x13_2 x14_2 x15_2 true)) = some r := H
          have A22 := Aside0.mk A220
          clear A220
          by_cases c23 : t234 = true
          ·subst c23
           have H1 : ((tocsinlaw22_small.f ((rd_T36 l0 x15_2).f4)).bind fun t236 => (tocsinlaw22_AlertsOthers.j2 k2 l0 a1 a2 a3 a4 l5 x13_2 x14_2 x15_2 (!t236))) = some r := by rw [if_pos rfl] at H; exact H
           clear H; have H := H1; clear H1
           replace H := Option.bind_eq_some_iff.mp H
           obtain ⟨t236, A240, H⟩ := H
           replace H : (tocsinlaw22_AlertsOthers.j2 k2 l0 a1 a2 a3 a4 l5 x13_2 x14_2 x15_2 (!t236)) = some r := H
           have A24 := Aside0.mk A240
           clear A240
           have H' := Aside0.mk H
           clear H
           have p233 : 0 ≤ (x15_2 : Int) := of_decide_eq_true (by first | (with_reducible assumption) | assumption)
           have q233 : x15_2 < (l0.length : Int) := of_decide_eq_true (by first | (with_reducible assumption) | assumption)
           obtain ⟨ad233, e233, hx233_0, hx233_1, hx233_2, hx233_3, hx233_4⟩ := at_T36 HR0.out x15_2 p233 q233
           cases e233
           replace hx233_0 := bc_ HB.out hx233_0; replace hx233_1 := bc_ HB.out hx233_1; replace hx233_2 := bc_ HB.out hx233_2; replace hx233_3 := bc_ HB.out hx233_3; replace hx233_4 := bc_ HB.out hx233_4; replace p233 := eq_true p233; replace q233 := eq_true q233
           go_wp2_with (first | ((with_reducible refine gate_callee (f := 9) rfl ?_); refine goesL_ (some 52) rfl rfl Try.func9 (by kernel_rfl) rfl #[.int .i64 ((rd_T36 l0 x15_2).f3)] rfl (by (try simp only [List.map_toArray, List.map_cons, List.map_nil]); first | done | rfl | (simp only [List.length_drop, List.length_take]; rfl)) ?_; (with_reducible refine (tocsinlaw22_small.calls ((rd_T36 l0 x15_2).f3) true _ A22.out).mono ?_); rintro e w' ⟨rfl, ⟨nd, rfl⟩⟩; refine ⟨_, rfl, ?_⟩; have p235 : 0 ≤ (x15_2 : Int) := of_decide_eq_true (by first | (with_reducible assumption) | assumption); have q235 : x15_2 < (l0.length : Int) := of_decide_eq_true (by first | (with_reducible assumption) | assumption); obtain ⟨ad235, e235, hx235_0, hx235_1, hx235_2, hx235_3, hx235_4⟩ := at_T36 HR0.out x15_2 p235 q235; obtain rfl : ad233 = ad235 := (by injection e235); replace hx235_0 := (HB.out.cell (World.block_lt_of_cell? w _ hx235_0)).trans hx235_0; replace hx235_1 := (HB.out.cell (World.block_lt_of_cell? w _ hx235_1)).trans hx235_1; replace hx235_2 := (HB.out.cell (World.block_lt_of_cell? w _ hx235_2)).trans hx235_2; replace hx235_3 := (HB.out.cell (World.block_lt_of_cell? w _ hx235_3)).trans hx235_3; replace hx235_4 := (HB.out.cell (World.block_lt_of_cell? w _ hx235_4)).trans hx235_4; replace p235 := eq_true p235; replace q235 := eq_true q235) | (go_at_call 9; (with_reducible refine (tocsinlaw22_small.calls ((rd_T36 l0 x15_2).f4) t236 _ A24.out).mono ?_); rintro e w' ⟨rfl, ⟨nd, rfl⟩⟩))
           go_meet
           case rel => exact ⟨_, (!t236), (by first | rfl | (simp; done) | (simp [*]; done)), H', ⟨by have := HJ8.out; have := HK2.out; first | omega | exact Nat.le_refl _⟩, ⟨by (with_reducible repeat (first | apply Kd.R_alloc | apply Kd.R_drewN | apply Kd.R_drew)); exact HO_13.out⟩, ⟨by (with_reducible repeat (first | apply Kd.R_alloc | apply Kd.R_drewN | apply Kd.R_drew)); exact HO_14.out⟩, ⟨by repeat (first | (with_reducible first | exact HB.out | apply below_alloc | apply pw_below_drewN | apply below_drew1) | exact HB.out)⟩⟩
          ·replace c23 := Bool.eq_false_iff.mpr c23
           subst c23
           have H1 : (tocsinlaw22_AlertsOthers.j2 k2 l0 a1 a2 a3 a4 l5 x13_2 x14_2 x15_2 true) = some r := by rw [if_neg (show ¬ (false = true) by decide)] at H; exact H
           clear H; have H := H1; clear H1
           have H' := Aside0.mk H
           clear H
           have p233 : 0 ≤ (x15_2 : Int) := of_decide_eq_true (by first | (with_reducible assumption) | assumption)
           have q233 : x15_2 < (l0.length : Int) := of_decide_eq_true (by first | (with_reducible assumption) | assumption)
           obtain ⟨ad233, e233, hx233_0, hx233_1, hx233_2, hx233_3, hx233_4⟩ := at_T36 HR0.out x15_2 p233 q233
           cases e233
           replace hx233_0 := bc_ HB.out hx233_0; replace hx233_1 := bc_ HB.out hx233_1; replace hx233_2 := bc_ HB.out hx233_2; replace hx233_3 := bc_ HB.out hx233_3; replace hx233_4 := bc_ HB.out hx233_4; replace p233 := eq_true p233; replace q233 := eq_true q233
           go_wp2_with (first | ((with_reducible refine gate_callee (f := 9) rfl ?_); refine goesL_ (some 52) rfl rfl Try.func9 (by kernel_rfl) rfl #[.int .i64 ((rd_T36 l0 x15_2).f3)] rfl (by (try simp only [List.map_toArray, List.map_cons, List.map_nil]); first | done | rfl | (simp only [List.length_drop, List.length_take]; rfl)) ?_; (with_reducible refine (tocsinlaw22_small.calls ((rd_T36 l0 x15_2).f3) false _ A22.out).mono ?_); rintro e w' ⟨rfl, ⟨nd, rfl⟩⟩; refine ⟨_, rfl, ?_⟩))
           go_meet
           case rel => exact ⟨_, (true), (by first | rfl | (simp; done) | (simp [*]; done)), H', ⟨by have := HJ8.out; have := HK2.out; first | omega | exact Nat.le_refl _⟩, ⟨by (with_reducible repeat (first | apply Kd.R_alloc | apply Kd.R_drewN | apply Kd.R_drew)); exact HO_13.out⟩, ⟨by (with_reducible repeat (first | apply Kd.R_alloc | apply Kd.R_drewN | apply Kd.R_drew)); exact HO_14.out⟩, ⟨by repeat (first | (with_reducible first | exact HB.out | apply below_alloc | apply pw_below_drewN | apply below_drew1) | exact HB.out)⟩⟩
         ·rw [if_neg c21] at H
          exact absurd H (by simp)
        case rest => as_aux_lemma =>
         clear HC20; try clear c1; try clear c2; try clear p2; try clear q2; try clear hx2; try clear c5; try clear c8; try clear c9; try clear c12; try clear c13; try clear c14; try clear c16; try clear c18; try clear c19; try clear c19b0; try clear c21; try clear c21b0; try clear c23; try clear p23; try clear q23; try clear hx23; try clear hx233_0; try clear hx233_1; try clear hx233_2; try clear hx233_3; try clear hx233_4; try clear hx235_0; try clear hx235_1; try clear hx235_2; try clear hx235_3; try clear hx235_4; try clear p2; try clear p233; try clear p235; try clear q233; try clear q235
         obtain ⟨kq, x62_19, rfl, HA, HJ19, HO_13, HO_14, HB⟩ := hcut
         cases kq with
         | zero => exact absurd HA.out (by simp [tocsinlaw22_AlertsOthers.j2])
         | succ kj19 =>
          have H := HA.out
          clear HA
          simp only [tocsinlaw22_AlertsOthers.j2] at H
          by_cases c25 : x62_19 = true
          ·subst c25
           have H1 : (some true) = some r := by rw [if_pos rfl] at H; exact H
           clear H; have H := H1; clear H1
           obtain rfl := Option.some.inj H
           go_wp2
           go_ret
           exact ⟨by first | rfl | (simp [errW_none, errW_some] <;> rfl) | (simp only [Opn.bne_nil, Opn.beq_nil]; done) | (simp [Opn.bne_nil, Opn.beq_nil]; done) | (simp [*, errW_none, errW_some] <;> rfl), by repeat (first | (with_reducible first | exact HB.out | apply below_alloc | apply pw_below_drewN | apply below_drew1) | exact HB.out)⟩
          ·replace c25 := Bool.eq_false_iff.mpr c25
           subst c25
           have H1 : (if 0 ≤ x15_2 then (if x15_2 < (l0.length : Int) then (if ((rd_T36 l0 x15_2).f0) = a1 then (if x13_2.length < 2932031007402 then (tocsinlaw22_AlertsOthers.j3 kj19 l0 a1 a2 a3 a4 l5 (x13_2 ++ [(⟨(rd_T36 l0 x15_2).f0, (rd_T36 l0 x15_2).f1, (rd_T36 l0 x15_2).f2, (rd_T36 l0 x15_2).f3, (rd_T36 l0 x15_2).f4⟩ : S36)]) x14_2 x15_2) else (none)) else (tocsinlaw22_AlertsOthers.j3 kj19 l0 a1 a2 a3 a4 l5 x13_2 x14_2 x15_2)) else (none)) else (none)) = some r := by rw [if_neg (show ¬ (false = true) by decide)] at H; exact H
           clear H; have H := H1; clear H1
           by_cases c26 : 0 ≤ x15_2
           ·rw [if_pos c26] at H
            have c26b0 : decide (0 ≤ x15_2) = true := decide_eq_true c26
            clear c26
            by_cases c27 : x15_2 < (l0.length : Int)
            ·rw [if_pos c27] at H
             have c27b0 : decide (x15_2 < (l0.length : Int)) = true := decide_eq_true c27
             clear c27
             have HC28 := Aside0.mk H
             clear H
             have p237 : 0 ≤ (x15_2 : Int) := of_decide_eq_true (by first | (with_reducible assumption) | assumption)
             have q237 : x15_2 < (l0.length : Int) := of_decide_eq_true (by first | (with_reducible assumption) | assumption)
             obtain ⟨ad237, e237, hx237_0, hx237_1, hx237_2, hx237_3, hx237_4⟩ := at_T36 HR0.out x15_2 p237 q237
             cases e237
             replace hx237_0 := bc_ HB.out hx237_0; replace hx237_1 := bc_ HB.out hx237_1; replace hx237_2 := bc_ HB.out hx237_2; replace hx237_3 := bc_ HB.out hx237_3; replace hx237_4 := bc_ HB.out hx237_4; replace p237 := eq_true p237; replace q237 := eq_true q237
             go_upto_if 69 with (fail)
             go_cut [13] (fun v13 wc => ∃ (kq : Nat) (x13_27 : List (S36)), Aside0 (tocsinlaw22_AlertsOthers.j3 kq l0 a1 a2 a3 a4 l5 x13_27 x14_2 x15_2 = some r) ∧ Aside0 (kq ≤ kj19) ∧ Aside0 (Kd.R k36 36 wc w.heap.size (fun k_ => some k_ ≠ (u14 : Value).ownBlock) v13 x13_27) ∧ Aside0 (Kd.R k36 36 wc w.heap.size (fun k_ => some k_ ≠ (v13 : Value).ownBlock) u14 x14_2) ∧ Aside0 (Below w.heap.size w wc))
             case first =>
              have H := HC28.out
              clear HC28
              by_cases c29 : ((rd_T36 l0 x15_2).f0) = a1
              ·rw [if_pos c29] at H
               have c29b0 : (((rd_T36 l0 x15_2).f0) == a1) = true := beq_iff_eq.mpr c29
               have c29b1 : (((rd_T36 l0 x15_2).f0) != a1) = false := bne_eq_false_iff_eq.mpr c29
               clear c29
               (first | rw [c29b0] | (simp only [i64_w, i32_w]; rw [c29b0]) | skip)
               by_cases c30 : x13_2.length < 2932031007402
               ·rw [if_pos c30] at H
                have LMc30 := Aside0.mk c30
                clear c30
                obtain ⟨y239, hy239⟩ : ∃ y_ : List (S36), y_ = (x13_2 ++ [(⟨(rd_T36 l0 x15_2).f0, (rd_T36 l0 x15_2).f1, (rd_T36 l0 x15_2).f2, (rd_T36 l0 x15_2).f3, (rd_T36 l0 x15_2).f4⟩ : S36)]) := ⟨_, rfl⟩
                replace H : (tocsinlaw22_AlertsOthers.j3 kj19 l0 a1 a2 a3 a4 l5 y239 x14_2 x15_2) = some r := by first | (rw [hy239]; with_reducible exact H) | (have H2_ := (Option.bind_some _ _).symm.trans H; rw [hy239]; with_reducible exact H2_) | (have H2_ := (Option.bind_some _ _).symm.trans H; with_reducible exact H2_) | with_reducible exact H | (rw [hy239]; exact H) | exact H
                have Ny239 := Aside0.mk hy239
                clear hy239
                have H' := Aside0.mk H
                clear H
                have p238 : 0 ≤ (x15_2 : Int) := of_decide_eq_true (by first | (with_reducible assumption) | assumption)
                have q238 : x15_2 < (l0.length : Int) := of_decide_eq_true (by first | (with_reducible assumption) | assumption)
                obtain ⟨ad238, e238, hx238_0, hx238_1, hx238_2, hx238_3, hx238_4⟩ := at_T36 HR0.out x15_2 p238 q238
                obtain rfl : ad237 = ad238 := (by injection e238)
                replace hx238_0 := bc_ HB.out hx238_0; replace hx238_1 := bc_ HB.out hx238_1; replace hx238_2 := bc_ HB.out hx238_2; replace hx238_3 := bc_ HB.out hx238_3; replace hx238_4 := bc_ HB.out hx238_4; replace p238 := eq_true p238; replace q238 := eq_true q238
                go_wp2_with (first | ((with_reducible refine gate_builtin (b := .append) (xs := #[.tmp 70, .tmp 75]) rfl ?_); at_builtin; refine Kd.R_append k36 (w0 := w) w.heap.size rfl (.tmp 70) (.tmp 75) 26 36 (.agg #[(.int .u32 0), (.string ⟨#[]⟩), (.int .u8 0), (.int .i64 0), (.int .i64 0)]) 48 rfl Try.underlying26 info36 rfl (by decide) (by omega) u13 x13_2 (⟨(rd_T36 l0 x15_2).f0, (rd_T36 l0 x15_2).f1, (rd_T36 l0 x15_2).f2, (rd_T36 l0 x15_2).f3, (rd_T36 l0 x15_2).f4⟩ : S36) [.int .u32 ((rd_T36 l0 x15_2).f0), .string ((rd_T36 l0 x15_2).f1), .int .u8 ((rd_T36 l0 x15_2).f2), .int .i64 ((rd_T36 l0 x15_2).f3), .int .i64 ((rd_T36 l0 x15_2).f4)] (fun k_ => some k_ ≠ (u14 : Value).ownBlock) (fun _ => False) rfl rfl ?aP (fun _ hk => hk.elim) ?aF ?aO ?aB ?aS ?aL ?_; (case aP => exact k36_mkM _ _ _ (⟨(rd_T36 l0 x15_2).f0, (rd_T36 l0 x15_2).f1, (rd_T36 l0 x15_2).f2, (rd_T36 l0 x15_2).f3, (rd_T36 l0 x15_2).f4⟩ : S36)); (case aB => exact (by repeat (first | (with_reducible first | exact HB.out | apply below_alloc | apply pw_below_drewN | apply below_drew1) | exact HB.out))); (case aF => exact (fun k_ hk => Kd.fresh' (Kd.R_lt (by (with_reducible repeat (first | apply Kd.R_alloc | apply Kd.R_drewN | apply Kd.R_drew)); exact HO_14.out)) k_ hk)); (case aO => exact (by (with_reducible repeat (first | apply Kd.R_alloc | apply Kd.R_drewN | apply Kd.R_drew)); exact HO_13.out)); (case aS => exact (below_size (by repeat (first | (with_reducible first | exact HB.out | apply below_alloc | apply pw_below_drewN | apply below_drew1) | exact HB.out)))); (case aL => have := LMc30.out; omega); intro v240 w31 ho hb hg hat; rw [← Ny239.out] at ho; have n0_ := Aside0.mk (Kd.R_after (ok := (fun _ => True)) (by (with_reducible repeat (first | apply Kd.R_alloc | apply Kd.R_drewN | apply Kd.R_drew)); exact Kd.R_mono HO_14.out (fun _ hk => ⟨trivial, hk⟩)) hg hat); have n1_ := Aside0.mk (hb); have n2_ := Aside0.mk (ho); clear HO_14; clear HB; clear HO_13; have HO_14 := n0_; have HB := n1_; have HO241 := n2_; clear n0_ n1_ n2_; clear ho hb hg hat))
                go_meet
                case rel => exact ⟨_, (y239), H', ⟨by have := HJ8.out; have := HK2.out; have := HJ19.out; first | omega | exact Nat.le_refl _⟩, ⟨by (with_reducible repeat (first | apply Kd.R_alloc | apply Kd.R_drewN | apply Kd.R_drew)); exact HO241.out⟩, ⟨by (with_reducible repeat (first | apply Kd.R_alloc | apply Kd.R_drewN | apply Kd.R_drew)); exact Kd.R_mono HO_14.out (fun _ hk => hk.2)⟩, ⟨by repeat (first | (with_reducible first | exact HB.out | apply below_alloc | apply pw_below_drewN | apply below_drew1) | exact HB.out)⟩⟩
               ·rw [if_neg c30] at H
                exact absurd H (by simp)
              ·rw [if_neg c29] at H
               have c29b0 : (((rd_T36 l0 x15_2).f0) == a1) = false := beq_eq_false_iff_ne.mpr c29
               have c29b1 : (((rd_T36 l0 x15_2).f0) != a1) = true := bne_iff_ne.mpr c29
               (first | rw [c29b0] | (simp only [i64_w, i32_w]; rw [c29b0]) | skip)
               have H' := Aside0.mk H
               clear H
               go_wp2
               go_meet
               case rel => exact ⟨_, (x13_2), H', ⟨by have := HJ8.out; have := HK2.out; have := HJ19.out; first | omega | exact Nat.le_refl _⟩, ⟨by (with_reducible repeat (first | apply Kd.R_alloc | apply Kd.R_drewN | apply Kd.R_drew)); exact HO_13.out⟩, ⟨by (with_reducible repeat (first | apply Kd.R_alloc | apply Kd.R_drewN | apply Kd.R_drew)); exact HO_14.out⟩, ⟨by repeat (first | (with_reducible first | exact HB.out | apply below_alloc | apply pw_below_drewN | apply below_drew1) | exact HB.out)⟩⟩
             case rest => as_aux_lemma =>
              clear HC28; try clear c1; try clear c2; try clear p2; try clear q2; try clear hx2; try clear c3; try clear c5; try clear c8; try clear c9; try clear c12; try clear c13; try clear c14; try clear c16; try clear c18; try clear c19; try clear c19b0; try clear c21; try clear c21b0; try clear c23; try clear p23; try clear q23; try clear hx23; try clear c25; try clear c26; try clear c26b0; try clear c27; try clear c27b0; try clear c29; try clear c29b0; try clear c29b1; try clear c30; try clear hx233_0; try clear hx233_1; try clear hx233_2; try clear hx233_3; try clear hx233_4; try clear hx235_0
              try clear hx235_1; try clear hx235_2; try clear hx235_3; try clear hx235_4; try clear hx237_0; try clear hx237_1; try clear hx237_2; try clear hx237_3; try clear hx237_4; try clear hx238_0; try clear hx238_1; try clear hx238_2; try clear hx238_3; try clear hx238_4; try clear p2; try clear p23; try clear p233; try clear p235; try clear p237; try clear p238; try clear q2; try clear q23; try clear q233; try clear q235; try clear q237; try clear q238
              obtain ⟨kq, x13_27, HA, HJ27, HO_13, HO_14, HB⟩ := hcut
              cases kq with
              | zero => exact absurd HA.out (by simp [tocsinlaw22_AlertsOthers.j3])
              | succ kj27 =>
               have H := HA.out
               clear HA
               simp only [tocsinlaw22_AlertsOthers.j3] at H
               have H' := Aside0.mk H
               clear H
               go_wp2
               go_loopg [16] kj27 (fun kq v16 w' => ∃ (x16_5 : Int), v16 = .int .i64 x16_5 ∧ Aside0 (tocsinlaw22_AlertsOthers.l1 kq l0 a1 a2 a3 a4 l5 x13_27 x14_2 x15_2 x16_5 = some r) ∧ Aside0 (kq ≤ kj27) ∧ Aside0 (Kd.R k36 36 w' w.heap.size (fun k_ => some k_ ≠ (u14 : Value).ownBlock) u13 x13_27) ∧ Aside0 (Kd.R k36 36 w' w.heap.size (fun k_ => some k_ ≠ (u13 : Value).ownBlock) u14 x14_2) ∧ Aside0 (Below w.heap.size w w'))
               case atStart => exact ⟨(0), (by first | rfl | (simp; done) | (simp [*]; done)), H', ⟨Nat.le_refl _⟩, ⟨by (with_reducible repeat (first | apply Kd.R_alloc | apply Kd.R_drewN | apply Kd.R_drew)); exact HO_13.out⟩, ⟨by (with_reducible repeat (first | apply Kd.R_alloc | apply Kd.R_drewN | apply Kd.R_drew)); exact HO_14.out⟩, ⟨by repeat (first | (with_reducible first | exact HB.out | apply below_alloc | apply pw_below_drewN | apply below_drew1) | exact HB.out)⟩⟩
               case round => as_aux_lemma =>
                clear H'
                try clear c1; try clear c2; try clear p2; try clear q2; try clear hx2; try clear c3; try clear c5; try clear c8; try clear c9; try clear c12; try clear c13; try clear c14; try clear c16; try clear c18; try clear c19; try clear c19b0; try clear c21; try clear c21b0; try clear c23; try clear p23; try clear q23; try clear hx23; try clear c25; try clear c26; try clear c26b0; try clear c27; try clear c27b0; try clear c29; try clear c29b0; try clear c29b1; try clear c30; try clear hx233_0; try clear hx233_1; try clear hx233_2; try clear hx233_3; try clear hx233_4; try clear hx235_0; try clear hx235_1
                try clear hx235_2; try clear hx235_3; try clear hx235_4; try clear hx237_0; try clear hx237_1; try clear hx237_2; try clear hx237_3; try clear hx237_4; try clear hx238_0; try clear hx238_1; try clear hx238_2; try clear hx238_3; try clear hx238_4; try clear p2; try clear p23; try clear p233; try clear p235; try clear p237; try clear p238; try clear q2; try clear q23; try clear q233; try clear q235; try clear q237; try clear q238
                obtain ⟨x16_5, rfl, HA, HK5, HO_13, HO_14, HB⟩ := hrel
                cases gk with
                | zero => exact absurd HA.out (by simp [tocsinlaw22_AlertsOthers.l1])
                | succ k5 =>
                 have H := HA.out
                 clear HA
                 simp only [tocsinlaw22_AlertsOthers.l1] at H
                 by_cases c32 : x16_5 < x15_2
                 ·rw [if_pos c32] at H
                  have c32b0 : decide (x16_5 < x15_2) = true := decide_eq_true c32
                  clear c32
                  by_cases c33 : 0 ≤ x16_5
                  ·rw [if_pos c33] at H
                   have c33b0 : decide (0 ≤ x16_5) = true := decide_eq_true c33
                   clear c33
                   by_cases c34 : x16_5 < (l0.length : Int)
                   ·rw [if_pos c34] at H
                    have c34b0 : decide (x16_5 < (l0.length : Int)) = true := decide_eq_true c34
                    clear c34
                    by_cases c35 : 0 ≤ x15_2
                    ·rw [if_pos c35] at H
                     have c35b0 : decide (0 ≤ x15_2) = true := decide_eq_true c35
                     clear c35
                     by_cases c36 : x15_2 < (l0.length : Int)
                     ·rw [if_pos c36] at H
                      have c36b0 : decide (x15_2 < (l0.length : Int)) = true := decide_eq_true c36
                      clear c36
                      by_cases c37 : ((rd_T36 l0 x16_5).f0) = ((rd_T36 l0 x15_2).f0)
                      ·rw [if_pos c37] at H
                       have c37b0 : (((rd_T36 l0 x16_5).f0) == ((rd_T36 l0 x15_2).f0)) = true := beq_iff_eq.mpr c37
                       have c37b1 : (((rd_T36 l0 x16_5).f0) != ((rd_T36 l0 x15_2).f0)) = false := bne_eq_false_iff_eq.mpr c37
                       clear c37
                       by_cases c38 : ((rd_T36 l0 x16_5).f1).toList = ((rd_T36 l0 x15_2).f1).toList
                       ·rw [if_pos c38] at H
                        have c38b0 : (((rd_T36 l0 x16_5).f1).toList == ((rd_T36 l0 x15_2).f1).toList) = true := beq_iff_eq.mpr c38
                        have c38b1 : (((rd_T36 l0 x16_5).f1).toList != ((rd_T36 l0 x15_2).f1).toList) = false := bne_eq_false_iff_eq.mpr c38
                        clear c38
                        obtain rfl := Option.some.inj H
                        try go_wp2
                        have n0_ := Aside0.mk (Kd.R_drew HO_13.out)
                        have n1_ := Aside0.mk (Kd.R_drew HO_14.out)
                        have n2_ := Aside0.mk (below_drew1 HB.out)
                        clear HO_13; clear HO_14; clear HB; have HO_13 := n0_; have HO_14 := n1_; have HB := n2_
                        clear n0_ n1_ n2_
                        have p242 : 0 ≤ (x16_5 : Int) := of_decide_eq_true (by first | (with_reducible assumption) | assumption)
                        have q242 : x16_5 < (l0.length : Int) := of_decide_eq_true (by first | (with_reducible assumption) | assumption)
                        obtain ⟨ad242, e242, hx242_0, hx242_1, hx242_2, hx242_3, hx242_4⟩ := at_T36 HR0.out x16_5 p242 q242
                        have hw242_4 := hx242_4; have hw242_3 := hx242_3; have hw242_2 := hx242_2; have hw242_1 := hx242_1; have hw242_0 := hx242_0
                        obtain rfl : ad237 = ad242 := (by injection e242)
                        replace hx242_0 := bc_ HB.out hx242_0; replace hx242_1 := bc_ HB.out hx242_1; replace hx242_2 := bc_ HB.out hx242_2; replace hx242_3 := bc_ HB.out hx242_3; replace hx242_4 := bc_ HB.out hx242_4; replace p242 := eq_true p242; replace q242 := eq_true q242
                        have p243 : 0 ≤ (x15_2 : Int) := of_decide_eq_true (by first | (with_reducible assumption) | assumption)
                        have q243 : x15_2 < (l0.length : Int) := of_decide_eq_true (by first | (with_reducible assumption) | assumption)
                        obtain ⟨ad243, e243, hx243_0, hx243_1, hx243_2, hx243_3, hx243_4⟩ := at_T36 HR0.out x15_2 p243 q243
                        have hw243_4 := hx243_4; have hw243_3 := hx243_3; have hw243_2 := hx243_2; have hw243_1 := hx243_1; have hw243_0 := hx243_0
                        obtain rfl : ad237 = ad243 := (by injection e243)
                        replace hx243_0 := bc_ HB.out hx243_0; replace hx243_1 := bc_ HB.out hx243_1; replace hx243_2 := bc_ HB.out hx243_2; replace hx243_3 := bc_ HB.out hx243_3; replace hx243_4 := bc_ HB.out hx243_4; replace p243 := eq_true p243; replace q243 := eq_true q243
                        have p244 : 0 ≤ (x16_5 : Int) := of_decide_eq_true (by first | (with_reducible assumption) | assumption)
                        have q244 : x16_5 < (l0.length : Int) := of_decide_eq_true (by first | (with_reducible assumption) | assumption)
                        obtain ⟨ad244, e244, hx244_0, hx244_1, hx244_2, hx244_3, hx244_4⟩ := at_T36 HR0.out x16_5 p244 q244
                        have hw244_4 := hx244_4; have hw244_3 := hx244_3; have hw244_2 := hx244_2; have hw244_1 := hx244_1; have hw244_0 := hx244_0
                        obtain rfl : ad237 = ad244 := (by injection e244)
                        replace hx244_0 := bc_ HB.out hx244_0; replace hx244_1 := bc_ HB.out hx244_1; replace hx244_2 := bc_ HB.out hx244_2; replace hx244_3 := bc_ HB.out hx244_3; replace hx244_4 := bc_ HB.out hx244_4; replace p244 := eq_true p244; replace q244 := eq_true q244
                        have p245 : 0 ≤ (x15_2 : Int) := of_decide_eq_true (by first | (with_reducible assumption) | assumption)
                        have q245 : x15_2 < (l0.length : Int) := of_decide_eq_true (by first | (with_reducible assumption) | assumption)
                        obtain ⟨ad245, e245, hx245_0, hx245_1, hx245_2, hx245_3, hx245_4⟩ := at_T36 HR0.out x15_2 p245 q245
                        have hw245_4 := hx245_4; have hw245_3 := hx245_3; have hw245_2 := hx245_2; have hw245_1 := hx245_1; have hw245_0 := hx245_0
                        obtain rfl : ad237 = ad245 := (by injection e245)
                        replace hx245_0 := bc_ HB.out hx245_0; replace hx245_1 := bc_ HB.out hx245_1; replace hx245_2 := bc_ HB.out hx245_2; replace hx245_3 := bc_ HB.out hx245_3; replace hx245_4 := bc_ HB.out hx245_4; replace p245 := eq_true p245; replace q245 := eq_true q245
                        as_aux_lemma =>
                         refine start_ (n := 24) (S := fun w' => w'.cell? (ad237.add ((x16_5).toNat * 5)) = some (.int .u32 ((rd_T36 l0 x16_5).f0)) ∧ w'.cell? ⟨(ad237.add ((x16_5).toNat * 5)).block, (ad237.add ((x16_5).toNat * 5)).off + 1, none⟩ = some (.string ((rd_T36 l0 x16_5).f1)) ∧ w'.cell? ⟨(ad237.add ((x16_5).toNat * 5)).block, (ad237.add ((x16_5).toNat * 5)).off + 2, none⟩ = some (.int .u8 ((rd_T36 l0 x16_5).f2)) ∧ w'.cell? ⟨(ad237.add ((x16_5).toNat * 5)).block, (ad237.add ((x16_5).toNat * 5)).off + 3, none⟩ = some (.int .i64 ((rd_T36 l0 x16_5).f3)) ∧ w'.cell? ⟨(ad237.add ((x16_5).toNat * 5)).block, (ad237.add ((x16_5).toNat * 5)).off + 4, none⟩ = some (.int .i64 ((rd_T36 l0 x16_5).f4)) ∧ w'.cell? (ad237.add ((x15_2).toNat * 5)) = some (.int .u32 ((rd_T36 l0 x15_2).f0)) ∧ w'.cell? ⟨(ad237.add ((x15_2).toNat * 5)).block, (ad237.add ((x15_2).toNat * 5)).off + 1, none⟩ = some (.string ((rd_T36 l0 x15_2).f1)) ∧ w'.cell? ⟨(ad237.add ((x15_2).toNat * 5)).block, (ad237.add ((x15_2).toNat * 5)).off + 2, none⟩ = some (.int .u8 ((rd_T36 l0 x15_2).f2)) ∧ w'.cell? ⟨(ad237.add ((x15_2).toNat * 5)).block, (ad237.add ((x15_2).toNat * 5)).off + 3, none⟩ = some (.int .i64 ((rd_T36 l0 x15_2).f3)) ∧ w'.cell? ⟨(ad237.add ((x15_2).toNat * 5)).block, (ad237.add ((x15_2).toNat * 5)).off + 4, none⟩ = some (.int .i64 ((rd_T36 l0 x15_2).f4)) ∧ w'.cell? (ad237.add ((x16_5).toNat * 5)) = some (.int .u32 ((rd_T36 l0 x16_5).f0)) ∧ w'.cell? ⟨(ad237.add ((x16_5).toNat * 5)).block, (ad237.add ((x16_5).toNat * 5)).off + 1, none⟩ = some (.string ((rd_T36 l0 x16_5).f1)) ∧ w'.cell? ⟨(ad237.add ((x16_5).toNat * 5)).block, (ad237.add ((x16_5).toNat * 5)).off + 2, none⟩ = some (.int .u8 ((rd_T36 l0 x16_5).f2)) ∧ w'.cell? ⟨(ad237.add ((x16_5).toNat * 5)).block, (ad237.add ((x16_5).toNat * 5)).off + 3, none⟩ = some (.int .i64 ((rd_T36 l0 x16_5).f3)) ∧ w'.cell? ⟨(ad237.add ((x16_5).toNat * 5)).block, (ad237.add ((x16_5).toNat * 5)).off + 4, none⟩ = some (.int .i64 ((rd_T36 l0 x16_5).f4)) ∧ w'.cell? (ad237.add ((x15_2).toNat * 5)) = some (.int .u32 ((rd_T36 l0 x15_2).f0)) ∧ w'.cell? ⟨(ad237.add ((x15_2).toNat * 5)).block, (ad237.add ((x15_2).toNat * 5)).off + 1, none⟩ = some (.string ((rd_T36 l0 x15_2).f1)) ∧ w'.cell? ⟨(ad237.add ((x15_2).toNat * 5)).block, (ad237.add ((x15_2).toNat * 5)).off + 2, none⟩ = some (.int .u8 ((rd_T36 l0 x15_2).f2)) ∧ w'.cell? ⟨(ad237.add ((x15_2).toNat * 5)).block, (ad237.add ((x15_2).toNat * 5)).off + 3, none⟩ = some (.int .i64 ((rd_T36 l0 x15_2).f3)) ∧ w'.cell? ⟨(ad237.add ((x15_2).toNat * 5)).block, (ad237.add ((x15_2).toNat * 5)).off + 4, none⟩ = some (.int .i64 ((rd_T36 l0 x15_2).f4))) (ds := []) (bs_ 24 0) (by kernel_rfl) rfl rfl ⟨((HB.out.cell (World.block_lt_of_cell? w _ hw242_0)).trans hw242_0), ((HB.out.cell (World.block_lt_of_cell? w _ hw242_1)).trans hw242_1), ((HB.out.cell (World.block_lt_of_cell? w _ hw242_2)).trans hw242_2), ((HB.out.cell (World.block_lt_of_cell? w _ hw242_3)).trans hw242_3), ((HB.out.cell (World.block_lt_of_cell? w _ hw242_4)).trans hw242_4), ((HB.out.cell (World.block_lt_of_cell? w _ hw243_0)).trans hw243_0), ((HB.out.cell (World.block_lt_of_cell? w _ hw243_1)).trans hw243_1), ((HB.out.cell (World.block_lt_of_cell? w _ hw243_2)).trans hw243_2), ((HB.out.cell (World.block_lt_of_cell? w _ hw243_3)).trans hw243_3), ((HB.out.cell (World.block_lt_of_cell? w _ hw243_4)).trans hw243_4), ((HB.out.cell (World.block_lt_of_cell? w _ hw244_0)).trans hw244_0), ((HB.out.cell (World.block_lt_of_cell? w _ hw244_1)).trans hw244_1), ((HB.out.cell (World.block_lt_of_cell? w _ hw244_2)).trans hw244_2), ((HB.out.cell (World.block_lt_of_cell? w _ hw244_3)).trans hw244_3), ((HB.out.cell (World.block_lt_of_cell? w _ hw244_4)).trans hw244_4), ((HB.out.cell (World.block_lt_of_cell? w _ hw245_0)).trans hw245_0), ((HB.out.cell (World.block_lt_of_cell? w _ hw245_1)).trans hw245_1), ((HB.out.cell (World.block_lt_of_cell? w _ hw245_2)).trans hw245_2), ((HB.out.cell (World.block_lt_of_cell? w _ hw245_3)).trans hw245_3), ((HB.out.cell (World.block_lt_of_cell? w _ hw245_4)).trans hw245_4)⟩ (fun hHeld => ?_); refine with_tabW tocsinlaw22_AlertsOthers.tab16 tocsinlaw22_AlertsOthers.bits16 (fun HT_ HW_ => ?_)
                         generalize wr.drew = w39 at HO_13 HO_14 HB hx242_0 hx242_1 hx242_2 hx242_3 hx242_4 hx243_0 hx243_1 hx243_2 hx243_3 hx243_4 hx244_0 hx244_1 hx244_2 hx244_3 hx244_4 hx245_0 hx245_1 hx245_2 hx245_3 hx245_4 hHeld ⊢
                         refine pure_ (i := 0) (N := some 82) (v := ?_) (a' := ?_) (bs_ 24 1) rfl rfl (any_of HT_.out (by kernel_rfl)) (fun _ _ _ h => h) (Or.inl ⟨by rfl, ?_⟩) ?_ ?_
                         rotate_left; (· intro w'; go_simp; with_reducible rfl); rotate_left; (· simp only [Act.put, s3_, s1_, s2_, i64_w, i32_w]; rfl)
                         refine pure_ (i := 1) (N := some 83) (v := ?_) (a' := ?_) (bs_ 24 3) rfl rfl (any_of HT_.out (by kernel_rfl)) (fun _ _ _ h => h) (Or.inl ⟨by rfl, ?_⟩) ?_ ?_
                         rotate_left; (· intro w'; go_simp; with_reducible rfl); rotate_left; (· simp only [Act.put, s3_, s1_, s2_, i64_w, i32_w]; rfl)
                         refine pure_ (i := 2) (N := some 84) (v := ?_) (a' := ?_) (bs_ 24 7) rfl rfl (any_of HT_.out (by kernel_rfl)) (fun _ _ _ h => h) (Or.inl ⟨by rfl, ?_⟩) ?_ ?_
                         rotate_left; (· intro w'; go_simp; with_reducible rfl); rotate_left; (· simp only [Act.put, s3_, s1_, s2_, i64_w, i32_w]; rfl)
                         refine pure_ (i := 3) (N := some 85) (v := ?_) (a' := ?_) (bs_ 24 15) rfl rfl (any_of HT_.out (by kernel_rfl)) (fun _ _ _ h => h) (Or.inl ⟨by rfl, ?_⟩) ?_ ?_
                         rotate_left; (· intro w'; go_simp; with_reducible rfl); rotate_left; (· simp only [Act.put, s3_, s1_, s2_, i64_w, i32_w]; rfl)
                         refine pure_ (i := 5) (N := some 87) (v := ?_) (a' := ?_) (bs_ 24 47) rfl rfl (any_of HT_.out (by kernel_rfl)) (fun _ _ _ h => h) (Or.inl ⟨by rfl, ?_⟩) ?_ ?_
                         rotate_left; (· intro w'; go_simp; with_reducible rfl); rotate_left; (· simp only [Act.put, s3_, s1_, s2_, i64_w, i32_w]; rfl)
                         refine pure_ (i := 6) (N := some 88) (v := ?_) (a' := ?_) (bs_ 24 111) rfl rfl (any_of HT_.out (by kernel_rfl)) (fun _ _ _ h => h) (Or.inl ⟨by rfl, ?_⟩) ?_ ?_
                         rotate_left; (· intro w'; go_simp; with_reducible rfl); rotate_left; (· simp only [Act.put, s3_, s1_, s2_, i64_w, i32_w]; rfl)
                         refine pure_ (i := 7) (N := some 89) (v := ?_) (a' := ?_) (bs_ 24 239) rfl rfl (any_of HT_.out (by kernel_rfl)) (fun _ _ _ h => h) (Or.inl ⟨by rfl, ?_⟩) ?_ ?_
                         rotate_left; (· intro w'; go_simp; with_reducible rfl); rotate_left; (· simp only [Act.put, s3_, s1_, s2_, i64_w, i32_w]; rfl)
                         refine pure_ (i := 8) (N := some 90) (v := ?_) (a' := ?_) (bs_ 24 495) rfl rfl (any_of HT_.out (by kernel_rfl)) (fun _ _ _ h => h) (Or.inl ⟨by rfl, ?_⟩) ?_ ?_
                         rotate_left; (· intro w'; go_simp; with_reducible rfl); rotate_left; (· simp only [Act.put, s3_, s1_, s2_, i64_w, i32_w]; rfl)
                         refine take_ (i := 4) (N := some 86) (v := ?_) (a' := ?_) (bs_ 24 511) rfl rfl (take_ofW HT_.out HW_.out (by kernel_rfl)) (fun _ _ _ h => h) (Or.inl ⟨by rfl, ?_⟩) hHeld ?_ ?_
                         rotate_left; (· rintro w' ⟨s0, s1, s2, s3, s4, s5, s6, s7, s8, s9, s10, s11, s12, s13, s14, s15, s16, s17, s18, s19⟩; go_simp; with_reducible rfl); rotate_left; (· simp only [Act.put, s3_, s1_, s2_, i64_w, i32_w]; rfl)
                         refine take_ (i := 9) (N := some 91) (v := ?_) (a' := ?_) (bs_ 24 1023) rfl rfl (take_ofW HT_.out HW_.out (by kernel_rfl)) (fun _ _ _ h => h) (Or.inl ⟨by rfl, ?_⟩) hHeld ?_ ?_
                         rotate_left; (· rintro w' ⟨s0, s1, s2, s3, s4, s5, s6, s7, s8, s9, s10, s11, s12, s13, s14, s15, s16, s17, s18, s19⟩; go_simp; with_reducible rfl); rotate_left; (· simp only [Act.put, s3_, s1_, s2_, i64_w, i32_w]; rfl)
                         refine pure_ (i := 10) (N := some 92) (v := ?_) (a' := ?_) (bs_ 24 2047) rfl rfl (any_of HT_.out (by kernel_rfl)) (fun _ _ _ h => h) (Or.inl ⟨by rfl, ?_⟩) ?_ ?_
                         rotate_left; (· intro w'; go_simp; with_reducible rfl); rotate_left; (· simp only [Act.put, s3_, s1_, s2_, i64_w, i32_w]; rfl)
                         refine pure_ (i := 11) (N := some 93) (v := ?_) (a' := ?_) (bs_ 24 4095) rfl rfl (any_of HT_.out (by kernel_rfl)) (fun _ _ _ h => h) (Or.inl ⟨by rfl, ?_⟩) ?_ ?_
                         rotate_left; (· intro w'; go_simp; with_reducible rfl); rotate_left; (· simp only [Act.put, s3_, s1_, s2_, i64_w, i32_w]; rfl)
                         refine pure_ (i := 12) (N := some 94) (v := ?_) (a' := ?_) (bs_ 24 8191) rfl rfl (any_of HT_.out (by kernel_rfl)) (fun _ _ _ h => h) (Or.inl ⟨by rfl, ?_⟩) ?_ ?_
                         rotate_left; (· intro w'; go_simp; with_reducible rfl); rotate_left; (· simp only [Act.put, s3_, s1_, s2_, i64_w, i32_w]; rfl)
                         refine pure_ (i := 13) (N := some 95) (v := ?_) (a' := ?_) (bs_ 24 16383) rfl rfl (any_of HT_.out (by kernel_rfl)) (fun _ _ _ h => h) (Or.inl ⟨by rfl, ?_⟩) ?_ ?_
                         rotate_left; (· intro w'; go_simp; with_reducible rfl); rotate_left; (· simp only [Act.put, s3_, s1_, s2_, i64_w, i32_w]; rfl)
                         refine pure_ (i := 14) (N := some 96) (v := ?_) (a' := ?_) (bs_ 24 32767) rfl rfl (any_of HT_.out (by kernel_rfl)) (fun _ _ _ h => h) (Or.inl ⟨by rfl, ?_⟩) ?_ ?_
                         rotate_left; (· intro w'; go_simp; with_reducible rfl); rotate_left; (· simp only [Act.put, s3_, s1_, s2_, i64_w, i32_w]; rfl)
                         refine pure_ (i := 15) (N := some 97) (v := ?_) (a' := ?_) (bs_ 24 65535) rfl rfl (any_of HT_.out (by kernel_rfl)) (fun _ _ _ h => h) (Or.inl ⟨by rfl, ?_⟩) ?_ ?_
                         rotate_left; (· intro w'; go_simp; with_reducible rfl); rotate_left; (· simp only [Act.put, s3_, s1_, s2_, i64_w, i32_w]; rfl)
                         refine pure_ (i := 17) (N := some 99) (v := ?_) (a' := ?_) (bs_ 24 196607) rfl rfl (any_of HT_.out (by kernel_rfl)) (fun _ _ _ h => h) (Or.inl ⟨by rfl, ?_⟩) ?_ ?_
                         rotate_left; (· intro w'; go_simp; with_reducible rfl); rotate_left; (· simp only [Act.put, s3_, s1_, s2_, i64_w, i32_w]; rfl)
                         refine pure_ (i := 18) (N := some 100) (v := ?_) (a' := ?_) (bs_ 24 458751) rfl rfl (any_of HT_.out (by kernel_rfl)) (fun _ _ _ h => h) (Or.inl ⟨by rfl, ?_⟩) ?_ ?_
                         rotate_left; (· intro w'; go_simp; with_reducible rfl); rotate_left; (· simp only [Act.put, s3_, s1_, s2_, i64_w, i32_w]; rfl)
                         refine pure_ (i := 19) (N := some 101) (v := ?_) (a' := ?_) (bs_ 24 983039) rfl rfl (any_of HT_.out (by kernel_rfl)) (fun _ _ _ h => h) (Or.inl ⟨by rfl, ?_⟩) ?_ ?_
                         rotate_left; (· intro w'; go_simp; with_reducible rfl); rotate_left; (· simp only [Act.put, s3_, s1_, s2_, i64_w, i32_w]; rfl)
                         refine pure_ (i := 20) (N := some 102) (v := ?_) (a' := ?_) (bs_ 24 2031615) rfl rfl (any_of HT_.out (by kernel_rfl)) (fun _ _ _ h => h) (Or.inl ⟨by rfl, ?_⟩) ?_ ?_
                         rotate_left; (· intro w'; go_simp; with_reducible rfl); rotate_left; (· simp only [Act.put, s3_, s1_, s2_, i64_w, i32_w]; rfl)
                         refine take_ (i := 16) (N := some 98) (v := ?_) (a' := ?_) (bs_ 24 2097151) rfl rfl (take_ofW HT_.out HW_.out (by kernel_rfl)) (fun _ _ _ h => h) (Or.inl ⟨by rfl, ?_⟩) hHeld ?_ ?_
                         rotate_left; (· rintro w' ⟨s0, s1, s2, s3, s4, s5, s6, s7, s8, s9, s10, s11, s12, s13, s14, s15, s16, s17, s18, s19⟩; go_simp; with_reducible rfl); rotate_left; (· simp only [Act.put, s3_, s1_, s2_, i64_w, i32_w]; rfl)
                         refine take_ (i := 21) (N := some 103) (v := ?_) (a' := ?_) (bs_ 24 4194303) rfl rfl (take_ofW HT_.out HW_.out (by kernel_rfl)) (fun _ _ _ h => h) (Or.inl ⟨by rfl, ?_⟩) hHeld ?_ ?_
                         rotate_left; (· rintro w' ⟨s0, s1, s2, s3, s4, s5, s6, s7, s8, s9, s10, s11, s12, s13, s14, s15, s16, s17, s18, s19⟩; go_simp; with_reducible rfl); rotate_left; (· simp only [Act.put, s3_, s1_, s2_, i64_w, i32_w]; rfl)
                         refine pure_ (i := 22) (N := some 104) (v := ?_) (a' := ?_) (bs_ 24 8388607) rfl rfl (any_of HT_.out (by kernel_rfl)) (fun _ _ _ h => h) (Or.inl ⟨by rfl, ?_⟩) ?_ ?_
                         rotate_left; (· intro w'; go_simp; with_reducible rfl); rotate_left; (· simp only [Act.put, s3_, s1_, s2_, i64_w, i32_w]; rfl)
                         refine pure_ (i := 23) (N := some 105) (v := ?_) (a' := ?_) (bs_ 24 16777215) rfl rfl (any_of HT_.out (by kernel_rfl)) (fun _ _ _ h => h) (Or.inl ⟨by rfl, ?_⟩) ?_ ?_
                         rotate_left; (· intro w'; go_simp; with_reducible rfl); rotate_left; (· simp only [Act.put, s3_, s1_, s2_, i64_w, i32_w]; rfl)
                         refine done_ (done_of HT_.out (by kernel_rfl)) ?_
                         try go_wp2
                         go_ret
                         exact ⟨by first | rfl | (simp [errW_none, errW_some] <;> rfl) | (simp only [Opn.bne_nil, Opn.beq_nil]; done) | (simp [Opn.bne_nil, Opn.beq_nil]; done) | (simp [*, errW_none, errW_some] <;> rfl), by repeat (first | (with_reducible first | exact HB.out | apply below_alloc | apply pw_below_drewN | apply below_drew1) | exact HB.out)⟩
                       ·rw [if_neg c38] at H
                        have c38b0 : (((rd_T36 l0 x16_5).f1).toList == ((rd_T36 l0 x15_2).f1).toList) = false := beq_eq_false_iff_ne.mpr c38
                        have c38b1 : (((rd_T36 l0 x16_5).f1).toList != ((rd_T36 l0 x15_2).f1).toList) = true := bne_iff_ne.mpr c38
                        have H' := Aside0.mk H
                        clear H
                        try go_wp2
                        have n0_ := Aside0.mk (Kd.R_drew HO_13.out)
                        have n1_ := Aside0.mk (Kd.R_drew HO_14.out)
                        have n2_ := Aside0.mk (below_drew1 HB.out)
                        clear HO_13; clear HO_14; clear HB; have HO_13 := n0_; have HO_14 := n1_; have HB := n2_
                        clear n0_ n1_ n2_
                        have p242 : 0 ≤ (x16_5 : Int) := of_decide_eq_true (by first | (with_reducible assumption) | assumption)
                        have q242 : x16_5 < (l0.length : Int) := of_decide_eq_true (by first | (with_reducible assumption) | assumption)
                        obtain ⟨ad242, e242, hx242_0, hx242_1, hx242_2, hx242_3, hx242_4⟩ := at_T36 HR0.out x16_5 p242 q242
                        have hw242_4 := hx242_4; have hw242_3 := hx242_3; have hw242_2 := hx242_2; have hw242_1 := hx242_1; have hw242_0 := hx242_0
                        obtain rfl : ad237 = ad242 := (by injection e242)
                        replace hx242_0 := bc_ HB.out hx242_0; replace hx242_1 := bc_ HB.out hx242_1; replace hx242_2 := bc_ HB.out hx242_2; replace hx242_3 := bc_ HB.out hx242_3; replace hx242_4 := bc_ HB.out hx242_4; replace p242 := eq_true p242; replace q242 := eq_true q242
                        have p243 : 0 ≤ (x15_2 : Int) := of_decide_eq_true (by first | (with_reducible assumption) | assumption)
                        have q243 : x15_2 < (l0.length : Int) := of_decide_eq_true (by first | (with_reducible assumption) | assumption)
                        obtain ⟨ad243, e243, hx243_0, hx243_1, hx243_2, hx243_3, hx243_4⟩ := at_T36 HR0.out x15_2 p243 q243
                        have hw243_4 := hx243_4; have hw243_3 := hx243_3; have hw243_2 := hx243_2; have hw243_1 := hx243_1; have hw243_0 := hx243_0
                        obtain rfl : ad237 = ad243 := (by injection e243)
                        replace hx243_0 := bc_ HB.out hx243_0; replace hx243_1 := bc_ HB.out hx243_1; replace hx243_2 := bc_ HB.out hx243_2; replace hx243_3 := bc_ HB.out hx243_3; replace hx243_4 := bc_ HB.out hx243_4; replace p243 := eq_true p243; replace q243 := eq_true q243
                        have p244 : 0 ≤ (x16_5 : Int) := of_decide_eq_true (by first | (with_reducible assumption) | assumption)
                        have q244 : x16_5 < (l0.length : Int) := of_decide_eq_true (by first | (with_reducible assumption) | assumption)
                        obtain ⟨ad244, e244, hx244_0, hx244_1, hx244_2, hx244_3, hx244_4⟩ := at_T36 HR0.out x16_5 p244 q244
                        have hw244_4 := hx244_4; have hw244_3 := hx244_3; have hw244_2 := hx244_2; have hw244_1 := hx244_1; have hw244_0 := hx244_0
                        obtain rfl : ad237 = ad244 := (by injection e244)
                        replace hx244_0 := bc_ HB.out hx244_0; replace hx244_1 := bc_ HB.out hx244_1; replace hx244_2 := bc_ HB.out hx244_2; replace hx244_3 := bc_ HB.out hx244_3; replace hx244_4 := bc_ HB.out hx244_4; replace p244 := eq_true p244; replace q244 := eq_true q244
                        have p245 : 0 ≤ (x15_2 : Int) := of_decide_eq_true (by first | (with_reducible assumption) | assumption)
                        have q245 : x15_2 < (l0.length : Int) := of_decide_eq_true (by first | (with_reducible assumption) | assumption)
                        obtain ⟨ad245, e245, hx245_0, hx245_1, hx245_2, hx245_3, hx245_4⟩ := at_T36 HR0.out x15_2 p245 q245
                        have hw245_4 := hx245_4; have hw245_3 := hx245_3; have hw245_2 := hx245_2; have hw245_1 := hx245_1; have hw245_0 := hx245_0
                        obtain rfl : ad237 = ad245 := (by injection e245)
                        replace hx245_0 := bc_ HB.out hx245_0; replace hx245_1 := bc_ HB.out hx245_1; replace hx245_2 := bc_ HB.out hx245_2; replace hx245_3 := bc_ HB.out hx245_3; replace hx245_4 := bc_ HB.out hx245_4; replace p245 := eq_true p245; replace q245 := eq_true q245
                        as_aux_lemma =>
                         refine start_ (n := 24) (S := fun w' => w'.cell? (ad237.add ((x16_5).toNat * 5)) = some (.int .u32 ((rd_T36 l0 x16_5).f0)) ∧ w'.cell? ⟨(ad237.add ((x16_5).toNat * 5)).block, (ad237.add ((x16_5).toNat * 5)).off + 1, none⟩ = some (.string ((rd_T36 l0 x16_5).f1)) ∧ w'.cell? ⟨(ad237.add ((x16_5).toNat * 5)).block, (ad237.add ((x16_5).toNat * 5)).off + 2, none⟩ = some (.int .u8 ((rd_T36 l0 x16_5).f2)) ∧ w'.cell? ⟨(ad237.add ((x16_5).toNat * 5)).block, (ad237.add ((x16_5).toNat * 5)).off + 3, none⟩ = some (.int .i64 ((rd_T36 l0 x16_5).f3)) ∧ w'.cell? ⟨(ad237.add ((x16_5).toNat * 5)).block, (ad237.add ((x16_5).toNat * 5)).off + 4, none⟩ = some (.int .i64 ((rd_T36 l0 x16_5).f4)) ∧ w'.cell? (ad237.add ((x15_2).toNat * 5)) = some (.int .u32 ((rd_T36 l0 x15_2).f0)) ∧ w'.cell? ⟨(ad237.add ((x15_2).toNat * 5)).block, (ad237.add ((x15_2).toNat * 5)).off + 1, none⟩ = some (.string ((rd_T36 l0 x15_2).f1)) ∧ w'.cell? ⟨(ad237.add ((x15_2).toNat * 5)).block, (ad237.add ((x15_2).toNat * 5)).off + 2, none⟩ = some (.int .u8 ((rd_T36 l0 x15_2).f2)) ∧ w'.cell? ⟨(ad237.add ((x15_2).toNat * 5)).block, (ad237.add ((x15_2).toNat * 5)).off + 3, none⟩ = some (.int .i64 ((rd_T36 l0 x15_2).f3)) ∧ w'.cell? ⟨(ad237.add ((x15_2).toNat * 5)).block, (ad237.add ((x15_2).toNat * 5)).off + 4, none⟩ = some (.int .i64 ((rd_T36 l0 x15_2).f4)) ∧ w'.cell? (ad237.add ((x16_5).toNat * 5)) = some (.int .u32 ((rd_T36 l0 x16_5).f0)) ∧ w'.cell? ⟨(ad237.add ((x16_5).toNat * 5)).block, (ad237.add ((x16_5).toNat * 5)).off + 1, none⟩ = some (.string ((rd_T36 l0 x16_5).f1)) ∧ w'.cell? ⟨(ad237.add ((x16_5).toNat * 5)).block, (ad237.add ((x16_5).toNat * 5)).off + 2, none⟩ = some (.int .u8 ((rd_T36 l0 x16_5).f2)) ∧ w'.cell? ⟨(ad237.add ((x16_5).toNat * 5)).block, (ad237.add ((x16_5).toNat * 5)).off + 3, none⟩ = some (.int .i64 ((rd_T36 l0 x16_5).f3)) ∧ w'.cell? ⟨(ad237.add ((x16_5).toNat * 5)).block, (ad237.add ((x16_5).toNat * 5)).off + 4, none⟩ = some (.int .i64 ((rd_T36 l0 x16_5).f4)) ∧ w'.cell? (ad237.add ((x15_2).toNat * 5)) = some (.int .u32 ((rd_T36 l0 x15_2).f0)) ∧ w'.cell? ⟨(ad237.add ((x15_2).toNat * 5)).block, (ad237.add ((x15_2).toNat * 5)).off + 1, none⟩ = some (.string ((rd_T36 l0 x15_2).f1)) ∧ w'.cell? ⟨(ad237.add ((x15_2).toNat * 5)).block, (ad237.add ((x15_2).toNat * 5)).off + 2, none⟩ = some (.int .u8 ((rd_T36 l0 x15_2).f2)) ∧ w'.cell? ⟨(ad237.add ((x15_2).toNat * 5)).block, (ad237.add ((x15_2).toNat * 5)).off + 3, none⟩ = some (.int .i64 ((rd_T36 l0 x15_2).f3)) ∧ w'.cell? ⟨(ad237.add ((x15_2).toNat * 5)).block, (ad237.add ((x15_2).toNat * 5)).off + 4, none⟩ = some (.int .i64 ((rd_T36 l0 x15_2).f4))) (ds := []) (bs_ 24 0) (by kernel_rfl) rfl rfl ⟨((HB.out.cell (World.block_lt_of_cell? w _ hw242_0)).trans hw242_0), ((HB.out.cell (World.block_lt_of_cell? w _ hw242_1)).trans hw242_1), ((HB.out.cell (World.block_lt_of_cell? w _ hw242_2)).trans hw242_2), ((HB.out.cell (World.block_lt_of_cell? w _ hw242_3)).trans hw242_3), ((HB.out.cell (World.block_lt_of_cell? w _ hw242_4)).trans hw242_4), ((HB.out.cell (World.block_lt_of_cell? w _ hw243_0)).trans hw243_0), ((HB.out.cell (World.block_lt_of_cell? w _ hw243_1)).trans hw243_1), ((HB.out.cell (World.block_lt_of_cell? w _ hw243_2)).trans hw243_2), ((HB.out.cell (World.block_lt_of_cell? w _ hw243_3)).trans hw243_3), ((HB.out.cell (World.block_lt_of_cell? w _ hw243_4)).trans hw243_4), ((HB.out.cell (World.block_lt_of_cell? w _ hw244_0)).trans hw244_0), ((HB.out.cell (World.block_lt_of_cell? w _ hw244_1)).trans hw244_1), ((HB.out.cell (World.block_lt_of_cell? w _ hw244_2)).trans hw244_2), ((HB.out.cell (World.block_lt_of_cell? w _ hw244_3)).trans hw244_3), ((HB.out.cell (World.block_lt_of_cell? w _ hw244_4)).trans hw244_4), ((HB.out.cell (World.block_lt_of_cell? w _ hw245_0)).trans hw245_0), ((HB.out.cell (World.block_lt_of_cell? w _ hw245_1)).trans hw245_1), ((HB.out.cell (World.block_lt_of_cell? w _ hw245_2)).trans hw245_2), ((HB.out.cell (World.block_lt_of_cell? w _ hw245_3)).trans hw245_3), ((HB.out.cell (World.block_lt_of_cell? w _ hw245_4)).trans hw245_4)⟩ (fun hHeld => ?_); refine with_tabW tocsinlaw22_AlertsOthers.tab16 tocsinlaw22_AlertsOthers.bits16 (fun HT_ HW_ => ?_)
                         generalize wr.drew = w40 at HO_13 HO_14 HB hx242_0 hx242_1 hx242_2 hx242_3 hx242_4 hx243_0 hx243_1 hx243_2 hx243_3 hx243_4 hx244_0 hx244_1 hx244_2 hx244_3 hx244_4 hx245_0 hx245_1 hx245_2 hx245_3 hx245_4 hHeld ⊢
                         refine pure_ (i := 0) (N := some 82) (v := ?_) (a' := ?_) (bs_ 24 1) rfl rfl (any_of HT_.out (by kernel_rfl)) (fun _ _ _ h => h) (Or.inl ⟨by rfl, ?_⟩) ?_ ?_
                         rotate_left; (· intro w'; go_simp; with_reducible rfl); rotate_left; (· simp only [Act.put, s3_, s1_, s2_, i64_w, i32_w]; rfl)
                         refine pure_ (i := 1) (N := some 83) (v := ?_) (a' := ?_) (bs_ 24 3) rfl rfl (any_of HT_.out (by kernel_rfl)) (fun _ _ _ h => h) (Or.inl ⟨by rfl, ?_⟩) ?_ ?_
                         rotate_left; (· intro w'; go_simp; with_reducible rfl); rotate_left; (· simp only [Act.put, s3_, s1_, s2_, i64_w, i32_w]; rfl)
                         refine pure_ (i := 2) (N := some 84) (v := ?_) (a' := ?_) (bs_ 24 7) rfl rfl (any_of HT_.out (by kernel_rfl)) (fun _ _ _ h => h) (Or.inl ⟨by rfl, ?_⟩) ?_ ?_
                         rotate_left; (· intro w'; go_simp; with_reducible rfl); rotate_left; (· simp only [Act.put, s3_, s1_, s2_, i64_w, i32_w]; rfl)
                         refine pure_ (i := 3) (N := some 85) (v := ?_) (a' := ?_) (bs_ 24 15) rfl rfl (any_of HT_.out (by kernel_rfl)) (fun _ _ _ h => h) (Or.inl ⟨by rfl, ?_⟩) ?_ ?_
                         rotate_left; (· intro w'; go_simp; with_reducible rfl); rotate_left; (· simp only [Act.put, s3_, s1_, s2_, i64_w, i32_w]; rfl)
                         refine pure_ (i := 5) (N := some 87) (v := ?_) (a' := ?_) (bs_ 24 47) rfl rfl (any_of HT_.out (by kernel_rfl)) (fun _ _ _ h => h) (Or.inl ⟨by rfl, ?_⟩) ?_ ?_
                         rotate_left; (· intro w'; go_simp; with_reducible rfl); rotate_left; (· simp only [Act.put, s3_, s1_, s2_, i64_w, i32_w]; rfl)
                         refine pure_ (i := 6) (N := some 88) (v := ?_) (a' := ?_) (bs_ 24 111) rfl rfl (any_of HT_.out (by kernel_rfl)) (fun _ _ _ h => h) (Or.inl ⟨by rfl, ?_⟩) ?_ ?_
                         rotate_left; (· intro w'; go_simp; with_reducible rfl); rotate_left; (· simp only [Act.put, s3_, s1_, s2_, i64_w, i32_w]; rfl)
                         refine pure_ (i := 7) (N := some 89) (v := ?_) (a' := ?_) (bs_ 24 239) rfl rfl (any_of HT_.out (by kernel_rfl)) (fun _ _ _ h => h) (Or.inl ⟨by rfl, ?_⟩) ?_ ?_
                         rotate_left; (· intro w'; go_simp; with_reducible rfl); rotate_left; (· simp only [Act.put, s3_, s1_, s2_, i64_w, i32_w]; rfl)
                         refine pure_ (i := 8) (N := some 90) (v := ?_) (a' := ?_) (bs_ 24 495) rfl rfl (any_of HT_.out (by kernel_rfl)) (fun _ _ _ h => h) (Or.inl ⟨by rfl, ?_⟩) ?_ ?_
                         rotate_left; (· intro w'; go_simp; with_reducible rfl); rotate_left; (· simp only [Act.put, s3_, s1_, s2_, i64_w, i32_w]; rfl)
                         refine take_ (i := 4) (N := some 86) (v := ?_) (a' := ?_) (bs_ 24 511) rfl rfl (take_ofW HT_.out HW_.out (by kernel_rfl)) (fun _ _ _ h => h) (Or.inl ⟨by rfl, ?_⟩) hHeld ?_ ?_
                         rotate_left; (· rintro w' ⟨s0, s1, s2, s3, s4, s5, s6, s7, s8, s9, s10, s11, s12, s13, s14, s15, s16, s17, s18, s19⟩; go_simp; with_reducible rfl); rotate_left; (· simp only [Act.put, s3_, s1_, s2_, i64_w, i32_w]; rfl)
                         refine take_ (i := 9) (N := some 91) (v := ?_) (a' := ?_) (bs_ 24 1023) rfl rfl (take_ofW HT_.out HW_.out (by kernel_rfl)) (fun _ _ _ h => h) (Or.inl ⟨by rfl, ?_⟩) hHeld ?_ ?_
                         rotate_left; (· rintro w' ⟨s0, s1, s2, s3, s4, s5, s6, s7, s8, s9, s10, s11, s12, s13, s14, s15, s16, s17, s18, s19⟩; go_simp; with_reducible rfl); rotate_left; (· simp only [Act.put, s3_, s1_, s2_, i64_w, i32_w]; rfl)
                         refine pure_ (i := 10) (N := some 92) (v := ?_) (a' := ?_) (bs_ 24 2047) rfl rfl (any_of HT_.out (by kernel_rfl)) (fun _ _ _ h => h) (Or.inl ⟨by rfl, ?_⟩) ?_ ?_
                         rotate_left; (· intro w'; go_simp; with_reducible rfl); rotate_left; (· simp only [Act.put, s3_, s1_, s2_, i64_w, i32_w]; rfl)
                         refine pure_ (i := 11) (N := some 93) (v := ?_) (a' := ?_) (bs_ 24 4095) rfl rfl (any_of HT_.out (by kernel_rfl)) (fun _ _ _ h => h) (Or.inl ⟨by rfl, ?_⟩) ?_ ?_
                         rotate_left; (· intro w'; go_simp; with_reducible rfl); rotate_left; (· simp only [Act.put, s3_, s1_, s2_, i64_w, i32_w]; rfl)
                         refine pure_ (i := 12) (N := some 94) (v := ?_) (a' := ?_) (bs_ 24 8191) rfl rfl (any_of HT_.out (by kernel_rfl)) (fun _ _ _ h => h) (Or.inl ⟨by rfl, ?_⟩) ?_ ?_
                         rotate_left; (· intro w'; go_simp; with_reducible rfl); rotate_left; (· simp only [Act.put, s3_, s1_, s2_, i64_w, i32_w]; rfl)
                         refine pure_ (i := 13) (N := some 95) (v := ?_) (a' := ?_) (bs_ 24 16383) rfl rfl (any_of HT_.out (by kernel_rfl)) (fun _ _ _ h => h) (Or.inl ⟨by rfl, ?_⟩) ?_ ?_
                         rotate_left; (· intro w'; go_simp; with_reducible rfl); rotate_left; (· simp only [Act.put, s3_, s1_, s2_, i64_w, i32_w]; rfl)
                         refine pure_ (i := 14) (N := some 96) (v := ?_) (a' := ?_) (bs_ 24 32767) rfl rfl (any_of HT_.out (by kernel_rfl)) (fun _ _ _ h => h) (Or.inl ⟨by rfl, ?_⟩) ?_ ?_
                         rotate_left; (· intro w'; go_simp; with_reducible rfl); rotate_left; (· simp only [Act.put, s3_, s1_, s2_, i64_w, i32_w]; rfl)
                         refine pure_ (i := 15) (N := some 97) (v := ?_) (a' := ?_) (bs_ 24 65535) rfl rfl (any_of HT_.out (by kernel_rfl)) (fun _ _ _ h => h) (Or.inl ⟨by rfl, ?_⟩) ?_ ?_
                         rotate_left; (· intro w'; go_simp; with_reducible rfl); rotate_left; (· simp only [Act.put, s3_, s1_, s2_, i64_w, i32_w]; rfl)
                         refine pure_ (i := 17) (N := some 99) (v := ?_) (a' := ?_) (bs_ 24 196607) rfl rfl (any_of HT_.out (by kernel_rfl)) (fun _ _ _ h => h) (Or.inl ⟨by rfl, ?_⟩) ?_ ?_
                         rotate_left; (· intro w'; go_simp; with_reducible rfl); rotate_left; (· simp only [Act.put, s3_, s1_, s2_, i64_w, i32_w]; rfl)
                         refine pure_ (i := 18) (N := some 100) (v := ?_) (a' := ?_) (bs_ 24 458751) rfl rfl (any_of HT_.out (by kernel_rfl)) (fun _ _ _ h => h) (Or.inl ⟨by rfl, ?_⟩) ?_ ?_
                         rotate_left; (· intro w'; go_simp; with_reducible rfl); rotate_left; (· simp only [Act.put, s3_, s1_, s2_, i64_w, i32_w]; rfl)
                         refine pure_ (i := 19) (N := some 101) (v := ?_) (a' := ?_) (bs_ 24 983039) rfl rfl (any_of HT_.out (by kernel_rfl)) (fun _ _ _ h => h) (Or.inl ⟨by rfl, ?_⟩) ?_ ?_
                         rotate_left; (· intro w'; go_simp; with_reducible rfl); rotate_left; (· simp only [Act.put, s3_, s1_, s2_, i64_w, i32_w]; rfl)
                         refine pure_ (i := 20) (N := some 102) (v := ?_) (a' := ?_) (bs_ 24 2031615) rfl rfl (any_of HT_.out (by kernel_rfl)) (fun _ _ _ h => h) (Or.inl ⟨by rfl, ?_⟩) ?_ ?_
                         rotate_left; (· intro w'; go_simp; with_reducible rfl); rotate_left; (· simp only [Act.put, s3_, s1_, s2_, i64_w, i32_w]; rfl)
                         refine take_ (i := 16) (N := some 98) (v := ?_) (a' := ?_) (bs_ 24 2097151) rfl rfl (take_ofW HT_.out HW_.out (by kernel_rfl)) (fun _ _ _ h => h) (Or.inl ⟨by rfl, ?_⟩) hHeld ?_ ?_
                         rotate_left; (· rintro w' ⟨s0, s1, s2, s3, s4, s5, s6, s7, s8, s9, s10, s11, s12, s13, s14, s15, s16, s17, s18, s19⟩; go_simp; with_reducible rfl); rotate_left; (· simp only [Act.put, s3_, s1_, s2_, i64_w, i32_w]; rfl)
                         refine take_ (i := 21) (N := some 103) (v := ?_) (a' := ?_) (bs_ 24 4194303) rfl rfl (take_ofW HT_.out HW_.out (by kernel_rfl)) (fun _ _ _ h => h) (Or.inl ⟨by rfl, ?_⟩) hHeld ?_ ?_
                         rotate_left; (· rintro w' ⟨s0, s1, s2, s3, s4, s5, s6, s7, s8, s9, s10, s11, s12, s13, s14, s15, s16, s17, s18, s19⟩; go_simp; with_reducible rfl); rotate_left; (· simp only [Act.put, s3_, s1_, s2_, i64_w, i32_w]; rfl)
                         refine pure_ (i := 22) (N := some 104) (v := ?_) (a' := ?_) (bs_ 24 8388607) rfl rfl (any_of HT_.out (by kernel_rfl)) (fun _ _ _ h => h) (Or.inl ⟨by rfl, ?_⟩) ?_ ?_
                         rotate_left; (· intro w'; go_simp; with_reducible rfl); rotate_left; (· simp only [Act.put, s3_, s1_, s2_, i64_w, i32_w]; rfl)
                         refine pure_ (i := 23) (N := some 105) (v := ?_) (a' := ?_) (bs_ 24 16777215) rfl rfl (any_of HT_.out (by kernel_rfl)) (fun _ _ _ h => h) (Or.inl ⟨by rfl, ?_⟩) ?_ ?_
                         rotate_left; (· intro w'; go_simp; with_reducible rfl); rotate_left; (· simp only [Act.put, s3_, s1_, s2_, i64_w, i32_w]; rfl)
                         refine done_ (done_of HT_.out (by kernel_rfl)) ?_
                         try go_wp2
                         go_roundg k5
                         case measure => have := HJ8.out; have := HK2.out; have := HJ19.out; have := HJ27.out; have := HK5.out; omega
                         case rel => exact ⟨(wrap64 (x16_5 + 1)), (by first | rfl | (simp; done) | (simp [*]; done)), H', ⟨by have := HJ8.out; have := HK2.out; have := HJ19.out; have := HJ27.out; have := HK5.out; omega⟩, ⟨by (with_reducible repeat (first | apply Kd.R_alloc | apply Kd.R_drewN | apply Kd.R_drew)); exact HO_13.out⟩, ⟨by (with_reducible repeat (first | apply Kd.R_alloc | apply Kd.R_drewN | apply Kd.R_drew)); exact HO_14.out⟩, ⟨by repeat (first | (with_reducible first | exact HB.out | apply below_alloc | apply pw_below_drewN | apply below_drew1) | exact HB.out)⟩⟩
                      ·rw [if_neg c37] at H
                       have c37b0 : (((rd_T36 l0 x16_5).f0) == ((rd_T36 l0 x15_2).f0)) = false := beq_eq_false_iff_ne.mpr c37
                       have c37b1 : (((rd_T36 l0 x16_5).f0) != ((rd_T36 l0 x15_2).f0)) = true := bne_iff_ne.mpr c37
                       have H' := Aside0.mk H
                       clear H
                       try go_wp2
                       have n0_ := Aside0.mk (Kd.R_drew HO_13.out)
                       have n1_ := Aside0.mk (Kd.R_drew HO_14.out)
                       have n2_ := Aside0.mk (below_drew1 HB.out)
                       clear HO_13; clear HO_14; clear HB; have HO_13 := n0_; have HO_14 := n1_; have HB := n2_
                       clear n0_ n1_ n2_
                       have p242 : 0 ≤ (x16_5 : Int) := of_decide_eq_true (by first | (with_reducible assumption) | assumption)
                       have q242 : x16_5 < (l0.length : Int) := of_decide_eq_true (by first | (with_reducible assumption) | assumption)
                       obtain ⟨ad242, e242, hx242_0, hx242_1, hx242_2, hx242_3, hx242_4⟩ := at_T36 HR0.out x16_5 p242 q242
                       have hw242_4 := hx242_4; have hw242_3 := hx242_3; have hw242_2 := hx242_2; have hw242_1 := hx242_1; have hw242_0 := hx242_0
                       obtain rfl : ad237 = ad242 := (by injection e242)
                       replace hx242_0 := bc_ HB.out hx242_0; replace hx242_1 := bc_ HB.out hx242_1; replace hx242_2 := bc_ HB.out hx242_2; replace hx242_3 := bc_ HB.out hx242_3; replace hx242_4 := bc_ HB.out hx242_4; replace p242 := eq_true p242; replace q242 := eq_true q242
                       have p243 : 0 ≤ (x15_2 : Int) := of_decide_eq_true (by first | (with_reducible assumption) | assumption)
                       have q243 : x15_2 < (l0.length : Int) := of_decide_eq_true (by first | (with_reducible assumption) | assumption)
                       obtain ⟨ad243, e243, hx243_0, hx243_1, hx243_2, hx243_3, hx243_4⟩ := at_T36 HR0.out x15_2 p243 q243
                       have hw243_4 := hx243_4; have hw243_3 := hx243_3; have hw243_2 := hx243_2; have hw243_1 := hx243_1; have hw243_0 := hx243_0
                       obtain rfl : ad237 = ad243 := (by injection e243)
                       replace hx243_0 := bc_ HB.out hx243_0; replace hx243_1 := bc_ HB.out hx243_1; replace hx243_2 := bc_ HB.out hx243_2; replace hx243_3 := bc_ HB.out hx243_3; replace hx243_4 := bc_ HB.out hx243_4; replace p243 := eq_true p243; replace q243 := eq_true q243
                       as_aux_lemma =>
                        refine start_ (n := 24) (S := fun w' => w'.cell? (ad237.add ((x16_5).toNat * 5)) = some (.int .u32 ((rd_T36 l0 x16_5).f0)) ∧ w'.cell? ⟨(ad237.add ((x16_5).toNat * 5)).block, (ad237.add ((x16_5).toNat * 5)).off + 1, none⟩ = some (.string ((rd_T36 l0 x16_5).f1)) ∧ w'.cell? ⟨(ad237.add ((x16_5).toNat * 5)).block, (ad237.add ((x16_5).toNat * 5)).off + 2, none⟩ = some (.int .u8 ((rd_T36 l0 x16_5).f2)) ∧ w'.cell? ⟨(ad237.add ((x16_5).toNat * 5)).block, (ad237.add ((x16_5).toNat * 5)).off + 3, none⟩ = some (.int .i64 ((rd_T36 l0 x16_5).f3)) ∧ w'.cell? ⟨(ad237.add ((x16_5).toNat * 5)).block, (ad237.add ((x16_5).toNat * 5)).off + 4, none⟩ = some (.int .i64 ((rd_T36 l0 x16_5).f4)) ∧ w'.cell? (ad237.add ((x15_2).toNat * 5)) = some (.int .u32 ((rd_T36 l0 x15_2).f0)) ∧ w'.cell? ⟨(ad237.add ((x15_2).toNat * 5)).block, (ad237.add ((x15_2).toNat * 5)).off + 1, none⟩ = some (.string ((rd_T36 l0 x15_2).f1)) ∧ w'.cell? ⟨(ad237.add ((x15_2).toNat * 5)).block, (ad237.add ((x15_2).toNat * 5)).off + 2, none⟩ = some (.int .u8 ((rd_T36 l0 x15_2).f2)) ∧ w'.cell? ⟨(ad237.add ((x15_2).toNat * 5)).block, (ad237.add ((x15_2).toNat * 5)).off + 3, none⟩ = some (.int .i64 ((rd_T36 l0 x15_2).f3)) ∧ w'.cell? ⟨(ad237.add ((x15_2).toNat * 5)).block, (ad237.add ((x15_2).toNat * 5)).off + 4, none⟩ = some (.int .i64 ((rd_T36 l0 x15_2).f4))) (ds := []) (bs_ 24 0) (by kernel_rfl) rfl rfl ⟨((HB.out.cell (World.block_lt_of_cell? w _ hw242_0)).trans hw242_0), ((HB.out.cell (World.block_lt_of_cell? w _ hw242_1)).trans hw242_1), ((HB.out.cell (World.block_lt_of_cell? w _ hw242_2)).trans hw242_2), ((HB.out.cell (World.block_lt_of_cell? w _ hw242_3)).trans hw242_3), ((HB.out.cell (World.block_lt_of_cell? w _ hw242_4)).trans hw242_4), ((HB.out.cell (World.block_lt_of_cell? w _ hw243_0)).trans hw243_0), ((HB.out.cell (World.block_lt_of_cell? w _ hw243_1)).trans hw243_1), ((HB.out.cell (World.block_lt_of_cell? w _ hw243_2)).trans hw243_2), ((HB.out.cell (World.block_lt_of_cell? w _ hw243_3)).trans hw243_3), ((HB.out.cell (World.block_lt_of_cell? w _ hw243_4)).trans hw243_4)⟩ (fun hHeld => ?_); refine with_tabW tocsinlaw22_AlertsOthers.tab16 tocsinlaw22_AlertsOthers.bits16 (fun HT_ HW_ => ?_)
                        generalize wr.drew = w41 at HO_13 HO_14 HB hx242_0 hx242_1 hx242_2 hx242_3 hx242_4 hx243_0 hx243_1 hx243_2 hx243_3 hx243_4 hHeld ⊢
                        refine pure_ (i := 0) (N := some 82) (v := ?_) (a' := ?_) (bs_ 24 1) rfl rfl (any_of HT_.out (by kernel_rfl)) (fun _ _ _ h => h) (Or.inl ⟨by rfl, ?_⟩) ?_ ?_
                        rotate_left; (· intro w'; go_simp; with_reducible rfl); rotate_left; (· simp only [Act.put, s3_, s1_, s2_, i64_w, i32_w]; rfl)
                        refine pure_ (i := 1) (N := some 83) (v := ?_) (a' := ?_) (bs_ 24 3) rfl rfl (any_of HT_.out (by kernel_rfl)) (fun _ _ _ h => h) (Or.inl ⟨by rfl, ?_⟩) ?_ ?_
                        rotate_left; (· intro w'; go_simp; with_reducible rfl); rotate_left; (· simp only [Act.put, s3_, s1_, s2_, i64_w, i32_w]; rfl)
                        refine pure_ (i := 2) (N := some 84) (v := ?_) (a' := ?_) (bs_ 24 7) rfl rfl (any_of HT_.out (by kernel_rfl)) (fun _ _ _ h => h) (Or.inl ⟨by rfl, ?_⟩) ?_ ?_
                        rotate_left; (· intro w'; go_simp; with_reducible rfl); rotate_left; (· simp only [Act.put, s3_, s1_, s2_, i64_w, i32_w]; rfl)
                        refine pure_ (i := 3) (N := some 85) (v := ?_) (a' := ?_) (bs_ 24 15) rfl rfl (any_of HT_.out (by kernel_rfl)) (fun _ _ _ h => h) (Or.inl ⟨by rfl, ?_⟩) ?_ ?_
                        rotate_left; (· intro w'; go_simp; with_reducible rfl); rotate_left; (· simp only [Act.put, s3_, s1_, s2_, i64_w, i32_w]; rfl)
                        refine pure_ (i := 5) (N := some 87) (v := ?_) (a' := ?_) (bs_ 24 47) rfl rfl (any_of HT_.out (by kernel_rfl)) (fun _ _ _ h => h) (Or.inl ⟨by rfl, ?_⟩) ?_ ?_
                        rotate_left; (· intro w'; go_simp; with_reducible rfl); rotate_left; (· simp only [Act.put, s3_, s1_, s2_, i64_w, i32_w]; rfl)
                        refine pure_ (i := 6) (N := some 88) (v := ?_) (a' := ?_) (bs_ 24 111) rfl rfl (any_of HT_.out (by kernel_rfl)) (fun _ _ _ h => h) (Or.inl ⟨by rfl, ?_⟩) ?_ ?_
                        rotate_left; (· intro w'; go_simp; with_reducible rfl); rotate_left; (· simp only [Act.put, s3_, s1_, s2_, i64_w, i32_w]; rfl)
                        refine pure_ (i := 7) (N := some 89) (v := ?_) (a' := ?_) (bs_ 24 239) rfl rfl (any_of HT_.out (by kernel_rfl)) (fun _ _ _ h => h) (Or.inl ⟨by rfl, ?_⟩) ?_ ?_
                        rotate_left; (· intro w'; go_simp; with_reducible rfl); rotate_left; (· simp only [Act.put, s3_, s1_, s2_, i64_w, i32_w]; rfl)
                        refine pure_ (i := 8) (N := some 90) (v := ?_) (a' := ?_) (bs_ 24 495) rfl rfl (any_of HT_.out (by kernel_rfl)) (fun _ _ _ h => h) (Or.inl ⟨by rfl, ?_⟩) ?_ ?_
                        rotate_left; (· intro w'; go_simp; with_reducible rfl); rotate_left; (· simp only [Act.put, s3_, s1_, s2_, i64_w, i32_w]; rfl)
                        refine take_ (i := 4) (N := some 86) (v := ?_) (a' := ?_) (bs_ 24 511) rfl rfl (take_ofW HT_.out HW_.out (by kernel_rfl)) (fun _ _ _ h => h) (Or.inl ⟨by rfl, ?_⟩) hHeld ?_ ?_
                        rotate_left; (· rintro w' ⟨s0, s1, s2, s3, s4, s5, s6, s7, s8, s9⟩; go_simp; with_reducible rfl); rotate_left; (· simp only [Act.put, s3_, s1_, s2_, i64_w, i32_w]; rfl)
                        refine take_ (i := 9) (N := some 91) (v := ?_) (a' := ?_) (bs_ 24 1023) rfl rfl (take_ofW HT_.out HW_.out (by kernel_rfl)) (fun _ _ _ h => h) (Or.inl ⟨by rfl, ?_⟩) hHeld ?_ ?_
                        rotate_left; (· rintro w' ⟨s0, s1, s2, s3, s4, s5, s6, s7, s8, s9⟩; go_simp; with_reducible rfl); rotate_left; (· simp only [Act.put, s3_, s1_, s2_, i64_w, i32_w]; rfl)
                        refine pure_ (i := 10) (N := some 92) (v := ?_) (a' := ?_) (bs_ 24 2047) rfl rfl (any_of HT_.out (by kernel_rfl)) (fun _ _ _ h => h) (Or.inl ⟨by rfl, ?_⟩) ?_ ?_
                        rotate_left; (· intro w'; go_simp; with_reducible rfl); rotate_left; (· simp only [Act.put, s3_, s1_, s2_, i64_w, i32_w]; rfl)
                        refine pure_ (i := 11) (N := some 93) (v := ?_) (a' := ?_) (bs_ 24 4095) rfl rfl (any_of HT_.out (by kernel_rfl)) (fun _ _ _ h => h) (Or.inl ⟨by rfl, ?_⟩) ?_ ?_
                        rotate_left; (· intro w'; go_simp; with_reducible rfl); rotate_left; (· simp only [Act.put, s3_, s1_, s2_, i64_w, i32_w]; rfl)
                        refine pure_ (i := 12) (N := some 94) (v := undef) (a' := ?_) (bs_ 24 8191) rfl rfl (any_of HT_.out (by kernel_rfl)) (fun _ _ _ h => h) (Or.inr ⟨by rfl, rfl⟩) ?_ ?_
                        rotate_left
                        ·simp only [Act.put, s3_, s1_, s2_, i64_w, i32_w]
                         rfl
                        refine pure_ (i := 13) (N := some 95) (v := undef) (a' := ?_) (bs_ 24 16383) rfl rfl (any_of HT_.out (by kernel_rfl)) (fun _ _ _ h => h) (Or.inr ⟨by rfl, rfl⟩) ?_ ?_
                        rotate_left
                        ·simp only [Act.put, s3_, s1_, s2_, i64_w, i32_w]
                         rfl
                        refine pure_ (i := 14) (N := some 96) (v := undef) (a' := ?_) (bs_ 24 32767) rfl rfl (any_of HT_.out (by kernel_rfl)) (fun _ _ _ h => h) (Or.inr ⟨by rfl, rfl⟩) ?_ ?_
                        rotate_left
                        ·simp only [Act.put, s3_, s1_, s2_, i64_w, i32_w]
                         rfl
                        refine pure_ (i := 15) (N := some 97) (v := undef) (a' := ?_) (bs_ 24 65535) rfl rfl (any_of HT_.out (by kernel_rfl)) (fun _ _ _ h => h) (Or.inr ⟨by rfl, rfl⟩) ?_ ?_
                        rotate_left
                        ·simp only [Act.put, s3_, s1_, s2_, i64_w, i32_w]
                         rfl
                        refine pure_ (i := 16) (N := some 98) (v := undef) (a' := ?_) (bs_ 24 131071) rfl rfl (any_of HT_.out (by kernel_rfl)) (fun _ _ _ h => h) (Or.inr ⟨by rfl, rfl⟩) ?_ ?_
                        rotate_left
                        ·simp only [Act.put, s3_, s1_, s2_, i64_w, i32_w]
                         rfl
                        refine pure_ (i := 17) (N := some 99) (v := undef) (a' := ?_) (bs_ 24 262143) rfl rfl (any_of HT_.out (by kernel_rfl)) (fun _ _ _ h => h) (Or.inr ⟨by rfl, rfl⟩) ?_ ?_
                        rotate_left
                        ·simp only [Act.put, s3_, s1_, s2_, i64_w, i32_w]
                         rfl
                        refine pure_ (i := 18) (N := some 100) (v := undef) (a' := ?_) (bs_ 24 524287) rfl rfl (any_of HT_.out (by kernel_rfl)) (fun _ _ _ h => h) (Or.inr ⟨by rfl, rfl⟩) ?_ ?_
                        rotate_left
                        ·simp only [Act.put, s3_, s1_, s2_, i64_w, i32_w]
                         rfl
                        refine pure_ (i := 19) (N := some 101) (v := undef) (a' := ?_) (bs_ 24 1048575) rfl rfl (any_of HT_.out (by kernel_rfl)) (fun _ _ _ h => h) (Or.inr ⟨by rfl, rfl⟩) ?_ ?_
                        rotate_left
                        ·simp only [Act.put, s3_, s1_, s2_, i64_w, i32_w]
                         rfl
                        refine pure_ (i := 20) (N := some 102) (v := undef) (a' := ?_) (bs_ 24 2097151) rfl rfl (any_of HT_.out (by kernel_rfl)) (fun _ _ _ h => h) (Or.inr ⟨by rfl, rfl⟩) ?_ ?_
                        rotate_left
                        ·simp only [Act.put, s3_, s1_, s2_, i64_w, i32_w]
                         rfl
                        refine pure_ (i := 21) (N := some 103) (v := undef) (a' := ?_) (bs_ 24 4194303) rfl rfl (any_of HT_.out (by kernel_rfl)) (fun _ _ _ h => h) (Or.inr ⟨by rfl, rfl⟩) ?_ ?_
                        rotate_left
                        ·simp only [Act.put, s3_, s1_, s2_, i64_w, i32_w]
                         rfl
                        refine pure_ (i := 22) (N := some 104) (v := undef) (a' := ?_) (bs_ 24 8388607) rfl rfl (any_of HT_.out (by kernel_rfl)) (fun _ _ _ h => h) (Or.inr ⟨by rfl, rfl⟩) ?_ ?_
                        rotate_left
                        ·simp only [Act.put, s3_, s1_, s2_, i64_w, i32_w]
                         rfl
                        refine pure_ (i := 23) (N := some 105) (v := ?_) (a' := ?_) (bs_ 24 16777215) rfl rfl (any_of HT_.out (by kernel_rfl)) (fun _ _ _ h => h) (Or.inl ⟨by rfl, ?_⟩) ?_ ?_
                        rotate_left; (· intro w'; go_simp; with_reducible rfl); rotate_left; (· simp only [Act.put, s3_, s1_, s2_, i64_w, i32_w]; rfl)
                        refine done_ (done_of HT_.out (by kernel_rfl)) ?_
                        try go_wp2
                        go_roundg k5
                        case measure => have := HJ8.out; have := HK2.out; have := HJ19.out; have := HJ27.out; have := HK5.out; omega
                        case rel => exact ⟨(wrap64 (x16_5 + 1)), (by first | rfl | (simp; done) | (simp [*]; done)), H', ⟨by have := HJ8.out; have := HK2.out; have := HJ19.out; have := HJ27.out; have := HK5.out; omega⟩, ⟨by (with_reducible repeat (first | apply Kd.R_alloc | apply Kd.R_drewN | apply Kd.R_drew)); exact HO_13.out⟩, ⟨by (with_reducible repeat (first | apply Kd.R_alloc | apply Kd.R_drewN | apply Kd.R_drew)); exact HO_14.out⟩, ⟨by repeat (first | (with_reducible first | exact HB.out | apply below_alloc | apply pw_below_drewN | apply below_drew1) | exact HB.out)⟩⟩
                     ·rw [if_neg c36] at H
                      exact absurd H (by simp)
                    ·rw [if_neg c35] at H
                     exact absurd H (by simp)
                   ·rw [if_neg c34] at H
                    exact absurd H (by simp)
                  ·rw [if_neg c33] at H
                   exact absurd H (by simp)
                 ·rw [if_neg c32] at H
                  have c32b0 : decide (x16_5 < x15_2) = false := decide_eq_false c32
                  clear c32
                  obtain ⟨ji42, hji42⟩ : ∃ j_ : Int, (wrap64 ((wrap64 ((l0.length : Int) - 1)) - x15_2)) = j_ := ⟨_, rfl⟩
                  replace H : (if 0 ≤ (ji42) then (if (ji42) < (l0.length : Int) then (if x14_2.length < 2932031007402 then (tocsinlaw22_AlertsOthers.l0 k5 l0 a1 a2 a3 a4 l5 x13_27 (x14_2 ++ [(⟨(rd_T36 l0 (ji42)).f0, (rd_T36 l0 (ji42)).f1, (rd_T36 l0 (ji42)).f2, (rd_T36 l0 (ji42)).f3, (rd_T36 l0 (ji42)).f4⟩ : S36)]) (wrap64 (x15_2 + 1))) else (none)) else (none)) else (none)) = some r := by first | (rw [hji42] at H; exact H) | (simp only [hji42] at H ⊢; exact H)
                  have hji42w : (IntKind.i64.wrap ((wrap64 ((l0.length : Int) - 1)) - x15_2)) = ji42 := (i64_w _).trans hji42
                  by_cases c43 : 0 ≤ (ji42)
                  ·rw [if_pos c43] at H
                   have c43b0 : decide (0 ≤ (ji42)) = true := decide_eq_true c43
                   clear c43
                   by_cases c44 : (ji42) < (l0.length : Int)
                   ·rw [if_pos c44] at H
                    have c44b0 : decide ((ji42) < (l0.length : Int)) = true := decide_eq_true c44
                    clear c44
                    by_cases c45 : x14_2.length < 2932031007402
                    ·rw [if_pos c45] at H
                     have LMc45 := Aside0.mk c45
                     clear c45
                     obtain ⟨y247, hy247⟩ : ∃ y_ : List (S36), y_ = (x14_2 ++ [(⟨(rd_T36 l0 (ji42)).f0, (rd_T36 l0 (ji42)).f1, (rd_T36 l0 (ji42)).f2, (rd_T36 l0 (ji42)).f3, (rd_T36 l0 (ji42)).f4⟩ : S36)]) := ⟨_, rfl⟩
                     replace H : (tocsinlaw22_AlertsOthers.l0 k5 l0 a1 a2 a3 a4 l5 x13_27 y247 (wrap64 (x15_2 + 1))) = some r := by first | (rw [hy247]; with_reducible exact H) | (have H2_ := (Option.bind_some _ _).symm.trans H; rw [hy247]; with_reducible exact H2_) | (have H2_ := (Option.bind_some _ _).symm.trans H; with_reducible exact H2_) | with_reducible exact H | (rw [hy247]; exact H) | exact H
                     have Ny247 := Aside0.mk hy247
                     clear hy247
                     have H' := Aside0.mk H
                     clear H
                     have p246 : 0 ≤ ((ji42) : Int) := of_decide_eq_true (by first | (with_reducible assumption) | assumption)
                     have q246 : (ji42) < (l0.length : Int) := of_decide_eq_true (by first | (with_reducible assumption) | assumption)
                     obtain ⟨ad246, e246, hx246_0, hx246_1, hx246_2, hx246_3, hx246_4⟩ := at_T36 HR0.out (ji42) p246 q246
                     obtain rfl : ad237 = ad246 := (by injection e246)
                     replace hx246_0 := bc_ HB.out hx246_0; replace hx246_1 := bc_ HB.out hx246_1; replace hx246_2 := bc_ HB.out hx246_2; replace hx246_3 := bc_ HB.out hx246_3; replace hx246_4 := bc_ HB.out hx246_4; replace p246 := eq_true p246; replace q246 := eq_true q246
                     go_wp2_with (first | ((with_reducible refine gate_builtin (b := .append) (xs := #[.tmp 106, .tmp 115]) rfl ?_); at_builtin; refine Kd.R_append k36 (w0 := w) w.heap.size rfl (.tmp 106) (.tmp 115) 26 36 (.agg #[(.int .u32 0), (.string ⟨#[]⟩), (.int .u8 0), (.int .i64 0), (.int .i64 0)]) 48 rfl Try.underlying26 info36 rfl (by decide) (by omega) u14 x14_2 (⟨(rd_T36 l0 (ji42)).f0, (rd_T36 l0 (ji42)).f1, (rd_T36 l0 (ji42)).f2, (rd_T36 l0 (ji42)).f3, (rd_T36 l0 (ji42)).f4⟩ : S36) [.int .u32 ((rd_T36 l0 (ji42)).f0), .string ((rd_T36 l0 (ji42)).f1), .int .u8 ((rd_T36 l0 (ji42)).f2), .int .i64 ((rd_T36 l0 (ji42)).f3), .int .i64 ((rd_T36 l0 (ji42)).f4)] (fun k_ => some k_ ≠ (u13 : Value).ownBlock) (fun _ => False) rfl rfl ?aP (fun _ hk => hk.elim) ?aF ?aO ?aB ?aS ?aL ?_; (case aP => exact k36_mkM _ _ _ (⟨(rd_T36 l0 (ji42)).f0, (rd_T36 l0 (ji42)).f1, (rd_T36 l0 (ji42)).f2, (rd_T36 l0 (ji42)).f3, (rd_T36 l0 (ji42)).f4⟩ : S36)); (case aB => exact (by repeat (first | (with_reducible first | exact HB.out | apply below_alloc | apply pw_below_drewN | apply below_drew1) | exact HB.out))); (case aF => exact (fun k_ hk => Kd.fresh' (Kd.R_lt (by (with_reducible repeat (first | apply Kd.R_alloc | apply Kd.R_drewN | apply Kd.R_drew)); exact HO_13.out)) k_ hk)); (case aO => exact (by (with_reducible repeat (first | apply Kd.R_alloc | apply Kd.R_drewN | apply Kd.R_drew)); exact HO_14.out)); (case aS => exact (below_size (by repeat (first | (with_reducible first | exact HB.out | apply below_alloc | apply pw_below_drewN | apply below_drew1) | exact HB.out)))); (case aL => have := LMc45.out; omega); intro v248 w46 ho hb hg hat; rw [← Ny247.out] at ho; have n0_ := Aside0.mk (Kd.R_after (ok := (fun _ => True)) (by (with_reducible repeat (first | apply Kd.R_alloc | apply Kd.R_drewN | apply Kd.R_drew)); exact Kd.R_mono HO_13.out (fun _ hk => ⟨trivial, hk⟩)) hg hat); have n1_ := Aside0.mk (hb); have n2_ := Aside0.mk (ho); clear HO_13; clear HB; clear HO_14; have HO_13 := n0_; have HB := n1_; have HO249 := n2_; clear n0_ n1_ n2_; clear ho hb hg hat))
                     go_roundg k5
                     case measure => have := HJ8.out; have := HK2.out; have := HJ19.out; have := HJ27.out; have := HK5.out; omega
                     case rel => exact ⟨(x13_27), (y247), (wrap64 (x15_2 + 1)), (by first | rfl | (simp; done) | (simp [*]; done)), H', ⟨by have := HJ8.out; have := HK2.out; have := HJ19.out; have := HJ27.out; have := HK5.out; omega⟩, ⟨by (with_reducible repeat (first | apply Kd.R_alloc | apply Kd.R_drewN | apply Kd.R_drew)); exact Kd.R_mono HO_13.out (fun _ hk => hk.2)⟩, ⟨by (with_reducible repeat (first | apply Kd.R_alloc | apply Kd.R_drewN | apply Kd.R_drew)); exact HO249.out⟩, ⟨by repeat (first | (with_reducible first | exact HB.out | apply below_alloc | apply pw_below_drewN | apply below_drew1) | exact HB.out)⟩⟩
                    ·rw [if_neg c45] at H
                     exact absurd H (by simp)
                   ·rw [if_neg c44] at H
                    exact absurd H (by simp)
                  ·rw [if_neg c43] at H
                   exact absurd H (by simp)
            ·rw [if_neg c27] at H
             exact absurd H (by simp)
           ·rw [if_neg c26] at H
            exact absurd H (by simp)
       ·rw [if_neg c19] at H
        have c19b0 : decide (x15_2 < (l0.length : Int)) = false := decide_eq_false c19
        clear c19
        have H' := Aside0.mk H
        clear H
        go_wp2
        go_loopg [17, 18] k2 (fun kq v17 v18 w' => ∃ (x17_3 : List ByteArray) (x18_3 : Int), v18 = .int .i64 x18_3 ∧ Aside0 (tocsinlaw22_AlertsOthers.l2 kq l0 a1 a2 a3 a4 l5 x13_2 x14_2 x17_3 x18_3 = some r) ∧ Aside0 (kq ≤ k2) ∧ Aside0 (Kd.R k36 36 w' w.heap.size (fun k_ => some k_ ≠ (u14 : Value).ownBlock) u13 x13_2) ∧ Aside0 (Kd.R k36 36 w' w.heap.size (fun k_ => some k_ ≠ (u13 : Value).ownBlock) u14 x14_2) ∧ Aside0 (Kd.R Kd.string 9 w' w.heap.size (fun _ => True) v17 x17_3) ∧ Aside0 (Below w.heap.size w w'))
        case atStart => exact ⟨(([] : List ByteArray)), (0), (by first | rfl | (simp; done) | (simp [*]; done)), H', ⟨Nat.le_refl _⟩, ⟨by (with_reducible repeat (first | apply Kd.R_alloc | apply Kd.R_drewN | apply Kd.R_drew)); exact HO_13.out⟩, ⟨by (with_reducible repeat (first | apply Kd.R_alloc | apply Kd.R_drewN | apply Kd.R_drew)); exact HO_14.out⟩, ⟨by first | exact Kd.R_nil _ _ _ _ _ | exact Kd.N_nil _ _ _ _ _ | exact Kd.V_nil _ _ _ _ _ | exact Kd.Q_nil _ _ _ _ _ | exact Kd.S_nil _ _ _ _ _⟩, ⟨by repeat (first | (with_reducible first | exact HB.out | apply below_alloc | apply pw_below_drewN | apply below_drew1) | exact HB.out)⟩⟩
        case round => as_aux_lemma =>
         clear H'
         try clear c1; try clear c2; try clear p2; try clear q2; try clear hx2; try clear c3; try clear c4; try clear p6; try clear c19; try clear c19b0; try clear p24; try clear q24; try clear hx24; try clear c26; try clear c27; try clear c32; try clear c32b0; try clear c33; try clear c34; try clear c35; try clear c36; try clear c37; try clear c37b0; try clear c37b1; try clear c38; try clear c38b0; try clear c38b1; try clear c43; try clear c43b0; try clear c44; try clear c44b0; try clear c45; try clear hx242_0; try clear hx242_1; try clear hx242_2; try clear hx242_3; try clear hx242_4; try clear hx243_0
         try clear hx243_1; try clear hx243_2; try clear hx243_3; try clear hx243_4; try clear hx244_0; try clear hx244_1; try clear hx244_2; try clear hx244_3; try clear hx244_4; try clear hx245_0; try clear hx245_1; try clear hx245_2; try clear hx245_3; try clear hx245_4; try clear hx246_0; try clear hx246_1; try clear hx246_2; try clear hx246_3; try clear hx246_4; try clear p242; try clear p243; try clear p244; try clear p245; try clear p246; try clear q242; try clear q243; try clear q244; try clear q245; try clear q246
         obtain ⟨x17_3, x18_3, rfl, HA, HK3, HO_13, HO_14, HO_17, HB⟩ := hrel
         cases gk with
         | zero => exact absurd HA.out (by simp [tocsinlaw22_AlertsOthers.l2])
         | succ k3 =>
          have H := HA.out
          clear HA
          simp only [tocsinlaw22_AlertsOthers.l2] at H
          by_cases c47 : x18_3 < (l5.length : Int)
          ·rw [if_pos c47] at H
           have c47b0 : decide (x18_3 < (l5.length : Int)) = true := decide_eq_true c47
           clear c47
           obtain ⟨ji48, hji48⟩ : ∃ j_ : Int, (wrap64 ((wrap64 ((l5.length : Int) - 1)) - x18_3)) = j_ := ⟨_, rfl⟩
           replace H : (if 0 ≤ (ji48) then (if (ji48) < (l5.length : Int) then (if x17_3.length < 8796093022208 then (tocsinlaw22_AlertsOthers.l2 k3 l0 a1 a2 a3 a4 l5 x13_2 x14_2 (x17_3 ++ [rdOf ByteArray.empty l5 (ji48)]) (wrap64 (x18_3 + 1))) else (none)) else (none)) else (none)) = some r := by first | (rw [hji48] at H; exact H) | (simp only [hji48] at H ⊢; exact H)
           have hji48w : (IntKind.i64.wrap ((wrap64 ((l5.length : Int) - 1)) - x18_3)) = ji48 := (i64_w _).trans hji48
           by_cases c49 : 0 ≤ (ji48)
           ·rw [if_pos c49] at H
            have c49b0 : decide (0 ≤ (ji48)) = true := decide_eq_true c49
            clear c49
            by_cases c50 : (ji48) < (l5.length : Int)
            ·rw [if_pos c50] at H
             have c50b0 : decide ((ji48) < (l5.length : Int)) = true := decide_eq_true c50
             clear c50
             by_cases c51 : x17_3.length < 8796093022208
             ·rw [if_pos c51] at H
              have LMc51 := Aside0.mk c51
              clear c51
              obtain ⟨y251, hy251⟩ : ∃ y_ : List ByteArray, y_ = (x17_3 ++ [rdOf ByteArray.empty l5 (ji48)]) := ⟨_, rfl⟩
              replace H : (tocsinlaw22_AlertsOthers.l2 k3 l0 a1 a2 a3 a4 l5 x13_2 x14_2 y251 (wrap64 (x18_3 + 1))) = some r := by first | (rw [hy251]; with_reducible exact H) | (have H2_ := (Option.bind_some _ _).symm.trans H; rw [hy251]; with_reducible exact H2_) | (have H2_ := (Option.bind_some _ _).symm.trans H; with_reducible exact H2_) | with_reducible exact H | (rw [hy251]; exact H) | exact H
              have Ny251 := Aside0.mk hy251
              clear hy251
              have H' := Aside0.mk H
              clear H
              have p250 : 0 ≤ ((ji48) : Int) := of_decide_eq_true (by first | (with_reducible assumption) | assumption)
              have q250 : (ji48) < (l5.length : Int) := of_decide_eq_true (by first | (with_reducible assumption) | assumption)
              obtain ⟨ad250, e250, hx250_0⟩ := Kd.at_string HR5.out (ji48) p250 q250
              cases e250
              replace hx250_0 := bc_ HB.out hx250_0; replace p250 := eq_true p250; replace q250 := eq_true q250
              go_wp2_with (first | ((with_reducible refine gate_builtin (b := .append) (xs := #[.tmp 123, .tmp 132]) rfl ?_); at_builtin; refine Kd.R_append Kd.string (w0 := w) w.heap.size rfl (.tmp 123) (.tmp 132) 29 9 (.string ⟨#[]⟩) 16 rfl Try.underlying29 info9 rfl (by decide) (by omega) u17 x17_3 (rdOf ByteArray.empty l5 (ji48)) [.string (rdOf ByteArray.empty l5 (ji48))] (fun _ => True) (fun _ => False) rfl rfl ?aP (fun _ hk => hk.elim) ?aF ?aO ?aB ?aS ?aL ?_; (case aP => exact rfl); (case aB => exact (by repeat (first | (with_reducible first | exact HB.out | apply below_alloc | apply pw_below_drewN | apply below_drew1) | exact HB.out))); (case aF => exact (fun _ _ => trivial)); (case aO => exact (by (with_reducible repeat (first | apply Kd.R_alloc | apply Kd.R_drewN | apply Kd.R_drew)); exact HO_17.out)); (case aS => exact (below_size (by repeat (first | (with_reducible first | exact HB.out | apply below_alloc | apply pw_below_drewN | apply below_drew1) | exact HB.out)))); (case aL => have := LMc51.out; omega); intro v252 w52 ho hb hg hat; rw [← Ny251.out] at ho; have n0_ := Aside0.mk (Kd.R_over' (by (with_reducible repeat (first | apply Kd.R_alloc | apply Kd.R_drewN | apply Kd.R_drew)); exact HO_13.out) (Kd.R_typed (by (with_reducible repeat (first | apply Kd.R_alloc | apply Kd.R_drewN | apply Kd.R_drew)); exact HO_17.out)) (by decide) hg); have n1_ := Aside0.mk (Kd.R_over' (by (with_reducible repeat (first | apply Kd.R_alloc | apply Kd.R_drewN | apply Kd.R_drew)); exact HO_14.out) (Kd.R_typed (by (with_reducible repeat (first | apply Kd.R_alloc | apply Kd.R_drewN | apply Kd.R_drew)); exact HO_17.out)) (by decide) hg); have n2_ := Aside0.mk (hb); have n3_ := Aside0.mk (ho); clear HO_13; clear HO_14; clear HB; clear HO_17; have HO_13 := n0_; have HO_14 := n1_; have HB := n2_; have HO253 := n3_; clear n0_ n1_ n2_ n3_; clear ho hb hg hat))
              go_roundg k3
              case measure => have := HJ8.out; have := HK2.out; have := HK3.out; omega
              case rel => exact ⟨(y251), (wrap64 (x18_3 + 1)), (by first | rfl | (simp; done) | (simp [*]; done)), H', ⟨by have := HJ8.out; have := HK2.out; have := HK3.out; omega⟩, ⟨by (with_reducible repeat (first | apply Kd.R_alloc | apply Kd.R_drewN | apply Kd.R_drew)); exact HO_13.out⟩, ⟨by (with_reducible repeat (first | apply Kd.R_alloc | apply Kd.R_drewN | apply Kd.R_drew)); exact HO_14.out⟩, ⟨by (with_reducible repeat (first | apply Kd.R_alloc | apply Kd.R_drewN | apply Kd.R_drew)); exact HO253.out⟩, ⟨by repeat (first | (with_reducible first | exact HB.out | apply below_alloc | apply pw_below_drewN | apply below_drew1) | exact HB.out)⟩⟩
             ·rw [if_neg c51] at H
              exact absurd H (by simp)
            ·rw [if_neg c50] at H
             exact absurd H (by simp)
           ·rw [if_neg c49] at H
            exact absurd H (by simp)
          ·rw [if_neg c47] at H
           have c47b0 : decide (x18_3 < (l5.length : Int)) = false := decide_eq_false c47
           clear c47
           replace H := Option.bind_eq_some_iff.mp H
           obtain ⟨t254, A530, H⟩ := H
           replace H : ((alerts_Step.f x13_2 a1 a2 a3 a4 l5).bind fun t257 => ((tocsinref22_Same.f k3 t257 t254).bind fun t260 => (if t260 = true then ((alerts_Step.f x14_2 a1 a2 a3 a4 x17_3).bind fun t261 => ((tocsinref22_Same.f k3 t261 t254).bind fun t264 => (tocsinlaw22_AlertsOthers.j6 k3 l0 a1 a2 a3 a4 l5 x13_2 t254 (!t264)))) else (tocsinlaw22_AlertsOthers.j6 k3 l0 a1 a2 a3 a4 l5 x13_2 t254 true)))) = some r := H
           have A53 := Aside0.mk A530
           clear A530
           have HC54 := Aside0.mk H
           clear H
           go_upto_region 25 with (first | ((with_reducible refine gate_callee (f := 11) rfl ?_); refine goesL_ (some 140) rfl rfl Try.func11 (by kernel_rfl) rfl #[.slice A0 l0.length c0, .int .u32 a1, .int .i64 a2, .int .i64 a3, .int .i64 a4, .slice A5 l5.length c5] rfl (by (try simp only [List.map_toArray, List.map_cons, List.map_nil]); first | done | rfl | (simp only [List.length_drop, List.length_take]; rfl)) ?_; (with_reducible refine (alerts_Step.calls _ _ l0 a1 a2 a3 a4 _ _ l5 t254 _ ?side1 ?side2 ?side3 ?side4 A53.out).mono ?_); (case side1 => repeat (first | exact (Kd.C_below HR0.out HB.out) | (with_reducible refine Kd.C_alloc ?_ _) | (with_reducible refine Kd.C_drewN ?_ _) | (with_reducible refine Kd.C_drew ?_))); (case side2 => exact HC0.out); (case side3 => repeat (first | exact (Kd.C_below HR5.out HB.out) | (with_reducible refine Kd.C_alloc ?_ _) | (with_reducible refine Kd.C_drewN ?_ _) | (with_reducible refine Kd.C_drew ?_))); (case side4 => exact HC5.out); rintro e w55 ⟨v255, rfl, ho0, hb⟩; refine ⟨_, rfl, ?_⟩; have n0_ := Aside0.mk (Kd.R_elder' (by (with_reducible repeat (first | apply Kd.R_alloc | apply Kd.R_drewN | apply Kd.R_drew)); exact HO_13.out) (Kd.R_base ho0) hb); have n1_ := Aside0.mk (Kd.R_elder' (by (with_reducible repeat (first | apply Kd.R_alloc | apply Kd.R_drewN | apply Kd.R_drew)); exact HO_14.out) (Kd.R_base ho0) hb); have n2_ := Aside0.mk (Kd.R_below (by (with_reducible repeat (first | apply Kd.R_alloc | apply Kd.R_drewN | apply Kd.R_drew)); exact HO_17.out) hb); have n3_ := Aside0.mk (Kd.R_lower (Kd.R_new' (Kd.R_new' ho0 (Kd.R_lt (by (with_reducible repeat (first | apply Kd.R_alloc | apply Kd.R_drewN | apply Kd.R_drew)); exact HO_13.out))) (Kd.R_lt (by (with_reducible repeat (first | apply Kd.R_alloc | apply Kd.R_drewN | apply Kd.R_drew)); exact HO_14.out))) (below_size (by repeat (first | (with_reducible first | exact HB.out | apply below_alloc | apply pw_below_drewN | apply below_drew1) | exact HB.out)))); have n4_ := Aside0.mk (below_step (by repeat (first | (with_reducible first | exact HB.out | apply below_alloc | apply pw_below_drewN | apply below_drew1) | exact HB.out)) hb); clear HO_13; clear HO_14; clear HO_17; clear HB; have HO_13 := n0_; have HO_14 := n1_; have HO_17 := n2_; have HO256 := n3_; have HB := n4_; clear n0_ n1_ n2_ n3_ n4_; (try clear hb); (try clear hb2); (try clear hk); (try clear hi); (try clear ho0)))
           (try simp only [Act.put, List.setIfInBounds_toArray, List.set_cons_zero, List.set_cons_succ])
           go_cut [162] (fun v162 wc => ∃ (kq : Nat) (x162_53 : Bool), v162 = .bool x162_53 ∧ Aside0 (tocsinlaw22_AlertsOthers.j6 kq l0 a1 a2 a3 a4 l5 x13_2 t254 x162_53 = some r) ∧ Aside0 (kq ≤ k3) ∧ Aside0 (Kd.R k36 36 wc w.heap.size (fun k_ => some k_ ≠ (v255 : Value).ownBlock) u13 x13_2) ∧ Aside0 (Kd.R k36 36 wc w.heap.size (fun k_ => some k_ ≠ (u13 : Value).ownBlock) v255 t254) ∧ Aside0 (Below w.heap.size w wc))
           case first =>
            have H := HC54.out
            clear HC54
            replace H := Option.bind_eq_some_iff.mp H
            obtain ⟨t257, A560, H⟩ := H
            replace H : ((tocsinref22_Same.f k3 t257 t254).bind fun t260 => (if t260 = true then ((alerts_Step.f x14_2 a1 a2 a3 a4 x17_3).bind fun t261 => ((tocsinref22_Same.f k3 t261 t254).bind fun t264 => (tocsinlaw22_AlertsOthers.j6 k3 l0 a1 a2 a3 a4 l5 x13_2 t254 (!t264)))) else (tocsinlaw22_AlertsOthers.j6 k3 l0 a1 a2 a3 a4 l5 x13_2 t254 true))) = some r := H
            have A56 := Aside0.mk A560
            clear A560
            replace H := Option.bind_eq_some_iff.mp H
            obtain ⟨t260, A570, H⟩ := H
            replace H : (if t260 = true then ((alerts_Step.f x14_2 a1 a2 a3 a4 x17_3).bind fun t261 => ((tocsinref22_Same.f k3 t261 t254).bind fun t264 => (tocsinlaw22_AlertsOthers.j6 k3 l0 a1 a2 a3 a4 l5 x13_2 t254 (!t264)))) else (tocsinlaw22_AlertsOthers.j6 k3 l0 a1 a2 a3 a4 l5 x13_2 t254 true)) = some r := H
            have A57 := Aside0.mk A570
            clear A570
            by_cases c58 : t260 = true
            ·subst c58
             have H1 : ((alerts_Step.f x14_2 a1 a2 a3 a4 x17_3).bind fun t261 => ((tocsinref22_Same.f k3 t261 t254).bind fun t264 => (tocsinlaw22_AlertsOthers.j6 k3 l0 a1 a2 a3 a4 l5 x13_2 t254 (!t264)))) = some r := by rw [if_pos rfl] at H; exact H
             clear H; have H := H1; clear H1
             replace H := Option.bind_eq_some_iff.mp H
             obtain ⟨t261, A590, H⟩ := H
             replace H : ((tocsinref22_Same.f k3 t261 t254).bind fun t264 => (tocsinlaw22_AlertsOthers.j6 k3 l0 a1 a2 a3 a4 l5 x13_2 t254 (!t264))) = some r := H
             have A59 := Aside0.mk A590
             clear A590
             replace H := Option.bind_eq_some_iff.mp H
             obtain ⟨t264, A600, H⟩ := H
             replace H : (tocsinlaw22_AlertsOthers.j6 k3 l0 a1 a2 a3 a4 l5 x13_2 t254 (!t264)) = some r := H
             have A60 := Aside0.mk A600
             clear A600
             have H' := Aside0.mk H
             clear H
             obtain ⟨Ao61, co61, eo61⟩ := Kd.R_slice HO_13.out
             subst eo61
             go_wp2_with (first | ((with_reducible refine gate_callee (f := 11) rfl ?_); refine goesL_ (some 147) rfl rfl Try.func11 (by kernel_rfl) rfl #[.slice Ao61 x13_2.length co61, .int .u32 a1, .int .i64 a2, .int .i64 a3, .int .i64 a4, .slice A5 l5.length c5] rfl (by (try simp only [List.map_toArray, List.map_cons, List.map_nil]); first | done | rfl | (simp only [List.length_drop, List.length_take]; rfl)) ?_; (with_reducible refine (alerts_Step.calls _ _ x13_2 a1 a2 a3 a4 _ _ l5 t257 _ ?side1 ?side2 ?side3 ?side4 A56.out).mono ?_); (case side1 => repeat (first | exact (Kd.R_reads' HO_13.out).2.2 | (with_reducible refine Kd.C_alloc ?_ _) | (with_reducible refine Kd.C_drewN ?_ _) | (with_reducible refine Kd.C_drew ?_))); (case side2 => exact (Kd.R_reads' HO_13.out).2.1); (case side3 => repeat (first | exact (Kd.C_below HR5.out HB.out) | (with_reducible refine Kd.C_alloc ?_ _) | (with_reducible refine Kd.C_drewN ?_ _) | (with_reducible refine Kd.C_drew ?_))); (case side4 => exact HC5.out); rintro e w62 ⟨v258, rfl, ho0, hb⟩; refine ⟨_, rfl, ?_⟩; have n0_ := Aside0.mk (Kd.R_elder' (by (with_reducible repeat (first | apply Kd.R_alloc | apply Kd.R_drewN | apply Kd.R_drew)); exact HO_13.out) (Kd.R_base ho0) hb); have n1_ := Aside0.mk (Kd.R_elder' (by (with_reducible repeat (first | apply Kd.R_alloc | apply Kd.R_drewN | apply Kd.R_drew)); exact HO_14.out) (Kd.R_base ho0) hb); have n2_ := Aside0.mk (Kd.R_below (by (with_reducible repeat (first | apply Kd.R_alloc | apply Kd.R_drewN | apply Kd.R_drew)); exact HO_17.out) hb); have n3_ := Aside0.mk (Kd.R_elder' (by (with_reducible repeat (first | apply Kd.R_alloc | apply Kd.R_drewN | apply Kd.R_drew)); exact HO256.out) (Kd.R_base ho0) hb); have n4_ := Aside0.mk (Kd.R_lower (Kd.R_new' (Kd.R_new' (Kd.R_new' ho0 (Kd.R_lt (by (with_reducible repeat (first | apply Kd.R_alloc | apply Kd.R_drewN | apply Kd.R_drew)); exact HO_13.out))) (Kd.R_lt (by (with_reducible repeat (first | apply Kd.R_alloc | apply Kd.R_drewN | apply Kd.R_drew)); exact HO_14.out))) (Kd.R_lt (by (with_reducible repeat (first | apply Kd.R_alloc | apply Kd.R_drewN | apply Kd.R_drew)); exact HO256.out))) (below_size (by repeat (first | (with_reducible first | exact HB.out | apply below_alloc | apply pw_below_drewN | apply below_drew1) | exact HB.out)))); have n5_ := Aside0.mk (below_step (by repeat (first | (with_reducible first | exact HB.out | apply below_alloc | apply pw_below_drewN | apply below_drew1) | exact HB.out)) hb); clear HO_13; clear HO_14; clear HO_17; clear HO256; clear HB; have HO_13 := n0_; have HO_14 := n1_; have HO_17 := n2_; have HO256 := n3_; have HO259 := n4_; have HB := n5_; clear n0_ n1_ n2_ n3_ n4_ n5_; (try clear hb); (try clear hb2); (try clear hk); (try clear hi); (try clear ho0); obtain ⟨Ao63, co63, eo63⟩ := Kd.R_slice HO259.out; subst eo63; obtain ⟨Ao64, co64, eo64⟩ := Kd.R_slice HO256.out; subst eo64) | ((with_reducible refine gate_callee (f := 14) rfl ?_); refine goesL_ (some 149) rfl rfl Try.func14 (by kernel_rfl) rfl #[.slice Ao63 t257.length co63, .slice Ao64 t254.length co64] rfl (by (try simp only [List.map_toArray, List.map_cons, List.map_nil]); first | done | rfl | (simp only [List.length_drop, List.length_take]; rfl)) ?_; (with_reducible refine (tocsinref22_Same.calls k3 _ _ t257 _ _ t254 true _ ?side1 ?side2 ?side3 ?side4 A57.out).mono ?_); (case side1 => repeat (first | exact (Kd.R_reads' HO259.out).2.2 | (with_reducible refine Kd.C_alloc ?_ _) | (with_reducible refine Kd.C_drewN ?_ _) | (with_reducible refine Kd.C_drew ?_))); (case side2 => exact (Kd.R_reads' HO259.out).2.1); (case side3 => repeat (first | exact (Kd.R_reads' HO256.out).2.2 | (with_reducible refine Kd.C_alloc ?_ _) | (with_reducible refine Kd.C_drewN ?_ _) | (with_reducible refine Kd.C_drew ?_))); (case side4 => exact (Kd.R_reads' HO256.out).2.1); rintro e w' ⟨rfl, ⟨nd, rfl⟩⟩; refine ⟨_, rfl, ?_⟩; obtain ⟨Ao65, co65, eo65⟩ := Kd.R_slice HO_14.out; subst eo65; obtain ⟨Ao66, co66, eo66⟩ := Kd.R_slice HO_17.out; subst eo66) | (go_at_call 11; (with_reducible refine (alerts_Step.calls _ _ x14_2 a1 a2 a3 a4 _ _ x17_3 t261 _ ?side1 ?side2 ?side3 ?side4 A59.out).mono ?_); (case side1 => repeat (first | exact (Kd.R_reads' HO_14.out).2.2 | (with_reducible refine Kd.C_alloc ?_ _) | (with_reducible refine Kd.C_drewN ?_ _) | (with_reducible refine Kd.C_drew ?_))); (case side2 => exact (Kd.R_reads' HO_14.out).2.1); (case side3 => repeat (first | exact (Kd.R_reads' HO_17.out).2.2 | (with_reducible refine Kd.C_alloc ?_ _) | (with_reducible refine Kd.C_drewN ?_ _) | (with_reducible refine Kd.C_drew ?_))); (case side4 => exact (Kd.R_reads' HO_17.out).2.1); rintro e w67 ⟨v262, rfl, ho0, hb⟩; have n0_ := Aside0.mk (Kd.R_elder' (by (with_reducible repeat (first | apply Kd.R_alloc | apply Kd.R_drewN | apply Kd.R_drew)); exact HO_13.out) (Kd.R_base ho0) hb); have n1_ := Aside0.mk (Kd.R_elder' (by (with_reducible repeat (first | apply Kd.R_alloc | apply Kd.R_drewN | apply Kd.R_drew)); exact HO_14.out) (Kd.R_base ho0) hb); have n2_ := Aside0.mk (Kd.R_below (by (with_reducible repeat (first | apply Kd.R_alloc | apply Kd.R_drewN | apply Kd.R_drew)); exact HO_17.out) hb); have n3_ := Aside0.mk (Kd.R_elder' (by (with_reducible repeat (first | apply Kd.R_alloc | apply Kd.R_drewN | apply Kd.R_drew)); exact HO256.out) (Kd.R_base ho0) hb); have n4_ := Aside0.mk (Kd.R_elder' (by (with_reducible repeat (first | apply Kd.R_alloc | apply Kd.R_drewN | apply Kd.R_drew)); exact HO259.out) (Kd.R_base ho0) hb); have n5_ := Aside0.mk (Kd.R_lower (Kd.R_new' (Kd.R_new' (Kd.R_new' (Kd.R_new' ho0 (Kd.R_lt (by (with_reducible repeat (first | apply Kd.R_alloc | apply Kd.R_drewN | apply Kd.R_drew)); exact HO_13.out))) (Kd.R_lt (by (with_reducible repeat (first | apply Kd.R_alloc | apply Kd.R_drewN | apply Kd.R_drew)); exact HO_14.out))) (Kd.R_lt (by (with_reducible repeat (first | apply Kd.R_alloc | apply Kd.R_drewN | apply Kd.R_drew)); exact HO256.out))) (Kd.R_lt (by (with_reducible repeat (first | apply Kd.R_alloc | apply Kd.R_drewN | apply Kd.R_drew)); exact HO259.out))) (below_size (by repeat (first | (with_reducible first | exact HB.out | apply below_alloc | apply pw_below_drewN | apply below_drew1) | exact HB.out)))); have n6_ := Aside0.mk (below_step (by repeat (first | (with_reducible first | exact HB.out | apply below_alloc | apply pw_below_drewN | apply below_drew1) | exact HB.out)) hb); clear HO_13; clear HO_14; clear HO_17; clear HO256; clear HO259; clear HB; have HO_13 := n0_; have HO_14 := n1_; have HO_17 := n2_; have HO256 := n3_; have HO259 := n4_; have HO263 := n5_; have HB := n6_; clear n0_ n1_ n2_ n3_ n4_ n5_ n6_; (try clear hb); (try clear hb2); (try clear hk); (try clear hi); (try clear ho0); obtain ⟨Ao68, co68, eo68⟩ := Kd.R_slice HO263.out; subst eo68) | (go_at_call 14; (with_reducible refine (tocsinref22_Same.calls k3 _ _ t261 _ _ t254 t264 _ ?side1 ?side2 ?side3 ?side4 A60.out).mono ?_); (case side1 => repeat (first | exact (Kd.R_reads' HO263.out).2.2 | (with_reducible refine Kd.C_alloc ?_ _) | (with_reducible refine Kd.C_drewN ?_ _) | (with_reducible refine Kd.C_drew ?_))); (case side2 => exact (Kd.R_reads' HO263.out).2.1); (case side3 => repeat (first | exact (Kd.R_reads' HO256.out).2.2 | (with_reducible refine Kd.C_alloc ?_ _) | (with_reducible refine Kd.C_drewN ?_ _) | (with_reducible refine Kd.C_drew ?_))); (case side4 => exact (Kd.R_reads' HO256.out).2.1); rintro e w' ⟨rfl, ⟨nd, rfl⟩⟩))
             go_meet
             case rel => exact ⟨_, (!t264), (by first | rfl | (simp; done) | (simp [*]; done)), H', ⟨by have := HJ8.out; have := HK2.out; have := HK3.out; first | omega | exact Nat.le_refl _⟩, ⟨by (with_reducible repeat (first | apply Kd.R_alloc | apply Kd.R_drewN | apply Kd.R_drew)); exact Kd.R_mono HO_13.out (fun _ hk => hk.1.1.2)⟩, ⟨by (with_reducible repeat (first | apply Kd.R_alloc | apply Kd.R_drewN | apply Kd.R_drew)); exact Kd.R_mono HO256.out (fun _ hk => hk.1.1.1.2)⟩, ⟨by repeat (first | (with_reducible first | exact HB.out | apply below_alloc | apply pw_below_drewN | apply below_drew1) | exact HB.out)⟩⟩
            ·replace c58 := Bool.eq_false_iff.mpr c58
             subst c58
             have H1 : (tocsinlaw22_AlertsOthers.j6 k3 l0 a1 a2 a3 a4 l5 x13_2 t254 true) = some r := by rw [if_neg (show ¬ (false = true) by decide)] at H; exact H
             clear H; have H := H1; clear H1
             have H' := Aside0.mk H
             clear H
             obtain ⟨Ao69, co69, eo69⟩ := Kd.R_slice HO_13.out
             subst eo69
             go_wp2_with (first | ((with_reducible refine gate_callee (f := 11) rfl ?_); refine goesL_ (some 147) rfl rfl Try.func11 (by kernel_rfl) rfl #[.slice Ao69 x13_2.length co69, .int .u32 a1, .int .i64 a2, .int .i64 a3, .int .i64 a4, .slice A5 l5.length c5] rfl (by (try simp only [List.map_toArray, List.map_cons, List.map_nil]); first | done | rfl | (simp only [List.length_drop, List.length_take]; rfl)) ?_; (with_reducible refine (alerts_Step.calls _ _ x13_2 a1 a2 a3 a4 _ _ l5 t257 _ ?side1 ?side2 ?side3 ?side4 A56.out).mono ?_); (case side1 => repeat (first | exact (Kd.R_reads' HO_13.out).2.2 | (with_reducible refine Kd.C_alloc ?_ _) | (with_reducible refine Kd.C_drewN ?_ _) | (with_reducible refine Kd.C_drew ?_))); (case side2 => exact (Kd.R_reads' HO_13.out).2.1); (case side3 => repeat (first | exact (Kd.C_below HR5.out HB.out) | (with_reducible refine Kd.C_alloc ?_ _) | (with_reducible refine Kd.C_drewN ?_ _) | (with_reducible refine Kd.C_drew ?_))); (case side4 => exact HC5.out); rintro e w70 ⟨v258, rfl, ho0, hb⟩; refine ⟨_, rfl, ?_⟩; have n0_ := Aside0.mk (Kd.R_elder' (by (with_reducible repeat (first | apply Kd.R_alloc | apply Kd.R_drewN | apply Kd.R_drew)); exact HO_13.out) (Kd.R_base ho0) hb); have n1_ := Aside0.mk (Kd.R_elder' (by (with_reducible repeat (first | apply Kd.R_alloc | apply Kd.R_drewN | apply Kd.R_drew)); exact HO_14.out) (Kd.R_base ho0) hb); have n2_ := Aside0.mk (Kd.R_below (by (with_reducible repeat (first | apply Kd.R_alloc | apply Kd.R_drewN | apply Kd.R_drew)); exact HO_17.out) hb); have n3_ := Aside0.mk (Kd.R_elder' (by (with_reducible repeat (first | apply Kd.R_alloc | apply Kd.R_drewN | apply Kd.R_drew)); exact HO256.out) (Kd.R_base ho0) hb); have n4_ := Aside0.mk (Kd.R_lower (Kd.R_new' (Kd.R_new' (Kd.R_new' ho0 (Kd.R_lt (by (with_reducible repeat (first | apply Kd.R_alloc | apply Kd.R_drewN | apply Kd.R_drew)); exact HO_13.out))) (Kd.R_lt (by (with_reducible repeat (first | apply Kd.R_alloc | apply Kd.R_drewN | apply Kd.R_drew)); exact HO_14.out))) (Kd.R_lt (by (with_reducible repeat (first | apply Kd.R_alloc | apply Kd.R_drewN | apply Kd.R_drew)); exact HO256.out))) (below_size (by repeat (first | (with_reducible first | exact HB.out | apply below_alloc | apply pw_below_drewN | apply below_drew1) | exact HB.out)))); have n5_ := Aside0.mk (below_step (by repeat (first | (with_reducible first | exact HB.out | apply below_alloc | apply pw_below_drewN | apply below_drew1) | exact HB.out)) hb); clear HO_13; clear HO_14; clear HO_17; clear HO256; clear HB; have HO_13 := n0_; have HO_14 := n1_; have HO_17 := n2_; have HO256 := n3_; have HO259 := n4_; have HB := n5_; clear n0_ n1_ n2_ n3_ n4_ n5_; (try clear hb); (try clear hb2); (try clear hk); (try clear hi); (try clear ho0); obtain ⟨Ao71, co71, eo71⟩ := Kd.R_slice HO259.out; subst eo71; obtain ⟨Ao72, co72, eo72⟩ := Kd.R_slice HO256.out; subst eo72) | ((with_reducible refine gate_callee (f := 14) rfl ?_); refine goesL_ (some 149) rfl rfl Try.func14 (by kernel_rfl) rfl #[.slice Ao71 t257.length co71, .slice Ao72 t254.length co72] rfl (by (try simp only [List.map_toArray, List.map_cons, List.map_nil]); first | done | rfl | (simp only [List.length_drop, List.length_take]; rfl)) ?_; (with_reducible refine (tocsinref22_Same.calls k3 _ _ t257 _ _ t254 false _ ?side1 ?side2 ?side3 ?side4 A57.out).mono ?_); (case side1 => repeat (first | exact (Kd.R_reads' HO259.out).2.2 | (with_reducible refine Kd.C_alloc ?_ _) | (with_reducible refine Kd.C_drewN ?_ _) | (with_reducible refine Kd.C_drew ?_))); (case side2 => exact (Kd.R_reads' HO259.out).2.1); (case side3 => repeat (first | exact (Kd.R_reads' HO256.out).2.2 | (with_reducible refine Kd.C_alloc ?_ _) | (with_reducible refine Kd.C_drewN ?_ _) | (with_reducible refine Kd.C_drew ?_))); (case side4 => exact (Kd.R_reads' HO256.out).2.1); rintro e w' ⟨rfl, ⟨nd, rfl⟩⟩; refine ⟨_, rfl, ?_⟩))
             go_meet
             case rel => exact ⟨_, (true), (by first | rfl | (simp; done) | (simp [*]; done)), H', ⟨by have := HJ8.out; have := HK2.out; have := HK3.out; first | omega | exact Nat.le_refl _⟩, ⟨by (with_reducible repeat (first | apply Kd.R_alloc | apply Kd.R_drewN | apply Kd.R_drew)); exact Kd.R_mono HO_13.out (fun _ hk => hk.1.2)⟩, ⟨by (with_reducible repeat (first | apply Kd.R_alloc | apply Kd.R_drewN | apply Kd.R_drew)); exact Kd.R_mono HO256.out (fun _ hk => hk.1.1.2)⟩, ⟨by repeat (first | (with_reducible first | exact HB.out | apply below_alloc | apply pw_below_drewN | apply below_drew1) | exact HB.out)⟩⟩
           case rest => as_aux_lemma =>
            clear HC54; try clear c1; try clear c2; try clear p2; try clear q2; try clear hx2; try clear c3; try clear c4; try clear c5; try clear p6; try clear c11; try clear c14; try clear c19; try clear c19b0; try clear p24; try clear q24; try clear hx24; try clear p25; try clear q25; try clear hx25; try clear c26; try clear c27; try clear c32; try clear c32b0; try clear c33; try clear c34; try clear c35; try clear c36; try clear c37; try clear c37b0; try clear c37b1; try clear c38; try clear c38b0; try clear c38b1; try clear c43; try clear c43b0; try clear c44; try clear c44b0; try clear c45
            try clear c47; try clear c47b0; try clear c49; try clear c49b0; try clear c50; try clear c50b0; try clear c51; try clear c58; try clear p64; try clear hx242_0; try clear hx242_1; try clear hx242_2; try clear hx242_3; try clear hx242_4; try clear hx243_0; try clear hx243_1; try clear hx243_2; try clear hx243_3; try clear hx243_4; try clear hx244_0; try clear hx244_1; try clear hx244_2; try clear hx244_3; try clear hx244_4; try clear hx245_0; try clear hx245_1; try clear hx245_2; try clear hx245_3; try clear hx245_4; try clear hx246_0; try clear hx246_1; try clear hx246_2; try clear hx246_3
            try clear hx246_4; try clear hx250_0; try clear p2; try clear p24; try clear p242; try clear p243; try clear p244; try clear p245; try clear p246; try clear p250; try clear p6; try clear q2; try clear q24; try clear q242; try clear q243; try clear q244; try clear q245; try clear q246; try clear q250
            obtain ⟨kq, x162_53, rfl, HA, HJ53, HO_13, HO_19, HB⟩ := hcut
            cases kq with
            | zero => exact absurd HA.out (by simp [tocsinlaw22_AlertsOthers.j6])
            | succ kj53 =>
             have H := HA.out
             clear HA
             simp only [tocsinlaw22_AlertsOthers.j6] at H
             by_cases c73 : x162_53 = true
             ·subst c73
              have H1 : (some false) = some r := by rw [if_pos rfl] at H; exact H
              clear H; have H := H1; clear H1
              obtain rfl := Option.some.inj H
              go_wp2
              go_ret
              exact ⟨by first | rfl | (simp [errW_none, errW_some] <;> rfl) | (simp only [Opn.bne_nil, Opn.beq_nil]; done) | (simp [Opn.bne_nil, Opn.beq_nil]; done) | (simp [*, errW_none, errW_some] <;> rfl), by repeat (first | (with_reducible first | exact HB.out | apply below_alloc | apply pw_below_drewN | apply below_drew1) | exact HB.out)⟩
             ·replace c73 := Bool.eq_false_iff.mpr c73
              subst c73
              have H1 : (tocsinlaw22_AlertsOthers.l3 kj53 l0 a1 a2 a3 a4 l5 x13_2 t254 0) = some r := by rw [if_neg (show ¬ (false = true) by decide)] at H; exact H
              clear H; have H := H1; clear H1
              have H' := Aside0.mk H
              clear H
              go_wp2
              go_loopg [20] kj53 (fun kq v20 w' => ∃ (x20_5 : Int), v20 = .int .i64 x20_5 ∧ Aside0 (tocsinlaw22_AlertsOthers.l3 kq l0 a1 a2 a3 a4 l5 x13_2 t254 x20_5 = some r) ∧ Aside0 (kq ≤ kj53) ∧ Aside0 (Kd.R k36 36 w' w.heap.size (fun k_ => some k_ ≠ (v255 : Value).ownBlock) u13 x13_2) ∧ Aside0 (Kd.R k36 36 w' w.heap.size (fun k_ => some k_ ≠ (u13 : Value).ownBlock) v255 t254) ∧ Aside0 (Below w.heap.size w w'))
              case atStart => exact ⟨(0), (by first | rfl | (simp; done) | (simp [*]; done)), H', ⟨Nat.le_refl _⟩, ⟨by (with_reducible repeat (first | apply Kd.R_alloc | apply Kd.R_drewN | apply Kd.R_drew)); exact HO_13.out⟩, ⟨by (with_reducible repeat (first | apply Kd.R_alloc | apply Kd.R_drewN | apply Kd.R_drew)); exact HO_19.out⟩, ⟨by repeat (first | (with_reducible first | exact HB.out | apply below_alloc | apply pw_below_drewN | apply below_drew1) | exact HB.out)⟩⟩
              case round => as_aux_lemma =>
               clear H'
               try clear c1; try clear c2; try clear p2; try clear q2; try clear hx2; try clear c3; try clear c4; try clear c5; try clear p6; try clear c7; try clear c11; try clear c14; try clear c19; try clear c19b0; try clear p24; try clear q24; try clear hx24; try clear p25; try clear q25; try clear hx25; try clear c26; try clear c27; try clear c32; try clear c32b0; try clear c33; try clear c34; try clear c35; try clear c36; try clear c37; try clear c37b0; try clear c37b1; try clear c38; try clear c38b0; try clear c38b1; try clear c43; try clear c43b0; try clear c44; try clear c44b0; try clear c45
               try clear c47; try clear c47b0; try clear c49; try clear c49b0; try clear c50; try clear c50b0; try clear c51; try clear c58; try clear p64; try clear c73; try clear hx242_0; try clear hx242_1; try clear hx242_2; try clear hx242_3; try clear hx242_4; try clear hx243_0; try clear hx243_1; try clear hx243_2; try clear hx243_3; try clear hx243_4; try clear hx244_0; try clear hx244_1; try clear hx244_2; try clear hx244_3; try clear hx244_4; try clear hx245_0; try clear hx245_1; try clear hx245_2; try clear hx245_3; try clear hx245_4; try clear hx246_0; try clear hx246_1; try clear hx246_2
               try clear hx246_3; try clear hx246_4; try clear hx250_0; try clear p2; try clear p24; try clear p242; try clear p243; try clear p244; try clear p245; try clear p246; try clear p25; try clear p250; try clear p6; try clear p64; try clear q2; try clear q24; try clear q242; try clear q243; try clear q244; try clear q245; try clear q246; try clear q25; try clear q250
               obtain ⟨x20_5, rfl, HA, HK5, HO_13, HO_19, HB⟩ := hrel
               cases gk with
               | zero => exact absurd HA.out (by simp [tocsinlaw22_AlertsOthers.l3])
               | succ k5 =>
                have H := HA.out
                clear HA
                simp only [tocsinlaw22_AlertsOthers.l3] at H
                by_cases c74 : x20_5 < (t254.length : Int)
                ·rw [if_pos c74] at H
                 have c74b0 : decide (x20_5 < (t254.length : Int)) = true := decide_eq_true c74
                 clear c74
                 by_cases c75 : 0 ≤ x20_5
                 ·rw [if_pos c75] at H
                  have c75b0 : decide (0 ≤ x20_5) = true := decide_eq_true c75
                  clear c75
                  by_cases c76 : ((rd_T36 t254 x20_5).f0) = a1
                  ·rw [if_pos c76] at H
                   have c76b0 : (((rd_T36 t254 x20_5).f0) == a1) = true := beq_iff_eq.mpr c76
                   have c76b1 : (((rd_T36 t254 x20_5).f0) != a1) = false := bne_eq_false_iff_eq.mpr c76
                   clear c76
                   by_cases c77 : x20_5 > 0
                   ·rw [if_pos c77] at H
                    have c77b0 : decide (0 < x20_5) = true := decide_eq_true c77
                    clear c77
                    obtain ⟨ji78, hji78⟩ : ∃ j_ : Int, (wrap64 (x20_5 - 1)) = j_ := ⟨_, rfl⟩
                    replace H : (if 0 ≤ (ji78) then (if (ji78) < (t254.length : Int) then (if ((Op.bytesLess (((rd_T36 t254 (ji78)).f1).toList) (((rd_T36 t254 x20_5).f1).toList)) = true) then ((tocsinref22_Has.f k5 l5 ((rd_T36 t254 x20_5).f1)).bind fun t270 => (if ((((rd_T36 t254 x20_5).f2) != 0) != t270) = true then (some false) else (tocsinlaw22_AlertsOthers.l3 k5 l0 a1 a2 a3 a4 l5 x13_2 t254 (wrap64 (x20_5 + 1))))) else (some false)) else (none)) else (none)) = some r := by first | (rw [hji78] at H; exact H) | (simp only [hji78] at H ⊢; exact H)
                    have hji78w : (IntKind.i64.wrap (x20_5 - 1)) = ji78 := (i64_w _).trans hji78
                    by_cases c79 : 0 ≤ (ji78)
                    ·rw [if_pos c79] at H
                     have c79b0 : decide (0 ≤ (ji78)) = true := decide_eq_true c79
                     clear c79
                     by_cases c80 : (ji78) < (t254.length : Int)
                     ·rw [if_pos c80] at H
                      have c80b0 : decide ((ji78) < (t254.length : Int)) = true := decide_eq_true c80
                      clear c80
                      by_cases c81 : ((Op.bytesLess (((rd_T36 t254 (ji78)).f1).toList) (((rd_T36 t254 x20_5).f1).toList)) = true)
                      ·rw [if_pos c81] at H
                       have c81b0 : (Op.bytesLess (((rd_T36 t254 (ji78)).f1).toList) (((rd_T36 t254 x20_5).f1).toList)) = true := c81
                       clear c81
                       replace H := Option.bind_eq_some_iff.mp H
                       obtain ⟨t270, A820, H⟩ := H
                       replace H : (if ((((rd_T36 t254 x20_5).f2) != 0) != t270) = true then (some false) else (tocsinlaw22_AlertsOthers.l3 k5 l0 a1 a2 a3 a4 l5 x13_2 t254 (wrap64 (x20_5 + 1)))) = some r := H
                       have A82 := Aside0.mk A820
                       clear A820
                       by_cases c83 : ((((rd_T36 t254 x20_5).f2) != 0) != t270) = true
                       ·rw [if_pos c83] at H
                        have c83b0 : ((((rd_T36 t254 x20_5).f2) != 0) != t270) = true := c83
                        (try (have c83b1 : decide ((((rd_T36 t254 x20_5).f2) != 0) = t270) = false := by simpa using c83))
                        (try (have c83b2 : ((((rd_T36 t254 x20_5).f2) != 0) == t270) = false := by simpa using c83))
                        (try (have c83b3 : ¬ ((((rd_T36 t254 x20_5).f2) != 0) = t270) := by simpa using c83))
                        clear c83
                        obtain rfl := Option.some.inj H
                        obtain ⟨Ao84, co84, eo84⟩ := Kd.R_slice HO_19.out
                        subst eo84
                        try go_wp2
                        have n0_ := Aside0.mk (Kd.R_drew HO_13.out)
                        have n1_ := Aside0.mk (Kd.R_drew HO_19.out)
                        have n2_ := Aside0.mk (below_drew1 HB.out)
                        clear HO_13; clear HO_19; clear HB; have HO_13 := n0_; have HO_19 := n1_; have HB := n2_
                        clear n0_ n1_ n2_
                        have p265 : 0 ≤ (x20_5 : Int) := of_decide_eq_true (by first | (with_reducible assumption) | assumption)
                        have q265 : x20_5 < (t254.length : Int) := of_decide_eq_true (by first | (with_reducible assumption) | assumption)
                        obtain ⟨ad265, e265, hx265_0, hx265_1, hx265_2, hx265_3, hx265_4⟩ := at_T36 (Kd.R_reads' HO_19.out).2.2 x20_5 p265 q265
                        cases e265
                        replace p265 := eq_true p265; replace q265 := eq_true q265
                        have p266 : 0 ≤ (x20_5 : Int) := of_decide_eq_true (by first | (with_reducible assumption) | assumption)
                        have q266 : x20_5 < (t254.length : Int) := of_decide_eq_true (by first | (with_reducible assumption) | assumption)
                        obtain ⟨ad266, e266, hx266_0, hx266_1, hx266_2, hx266_3, hx266_4⟩ := at_T36 (Kd.R_reads' HO_19.out).2.2 x20_5 p266 q266
                        obtain rfl : ad265 = ad266 := (by injection e266)
                        replace p266 := eq_true p266; replace q266 := eq_true q266
                        have p267 : 0 ≤ ((ji78) : Int) := of_decide_eq_true (by first | (with_reducible assumption) | assumption)
                        have q267 : (ji78) < (t254.length : Int) := of_decide_eq_true (by first | (with_reducible assumption) | assumption)
                        obtain ⟨ad267, e267, hx267_0, hx267_1, hx267_2, hx267_3, hx267_4⟩ := at_T36 (Kd.R_reads' HO_19.out).2.2 (ji78) p267 q267
                        obtain rfl : ad265 = ad267 := (by injection e267)
                        replace p267 := eq_true p267; replace q267 := eq_true q267
                        have p268 : 0 ≤ (x20_5 : Int) := of_decide_eq_true (by first | (with_reducible assumption) | assumption)
                        have q268 : x20_5 < (t254.length : Int) := of_decide_eq_true (by first | (with_reducible assumption) | assumption)
                        obtain ⟨ad268, e268, hx268_0, hx268_1, hx268_2, hx268_3, hx268_4⟩ := at_T36 (Kd.R_reads' HO_19.out).2.2 x20_5 p268 q268
                        obtain rfl : ad265 = ad268 := (by injection e268)
                        replace p268 := eq_true p268; replace q268 := eq_true q268
                        have p269 : 0 ≤ (x20_5 : Int) := of_decide_eq_true (by first | (with_reducible assumption) | assumption)
                        have q269 : x20_5 < (t254.length : Int) := of_decide_eq_true (by first | (with_reducible assumption) | assumption)
                        obtain ⟨ad269, e269, hx269_0, hx269_1, hx269_2, hx269_3, hx269_4⟩ := at_T36 (Kd.R_reads' HO_19.out).2.2 x20_5 p269 q269
                        obtain rfl : ad265 = ad269 := (by injection e269)
                        replace p269 := eq_true p269; replace q269 := eq_true q269
                        as_aux_lemma =>
                         refine start_ (n := 41) (S := fun w' => w'.cell? (ad265.add ((x20_5).toNat * 5)) = some (.int .u32 ((rd_T36 t254 x20_5).f0)) ∧ w'.cell? ⟨(ad265.add ((x20_5).toNat * 5)).block, (ad265.add ((x20_5).toNat * 5)).off + 1, none⟩ = some (.string ((rd_T36 t254 x20_5).f1)) ∧ w'.cell? ⟨(ad265.add ((x20_5).toNat * 5)).block, (ad265.add ((x20_5).toNat * 5)).off + 2, none⟩ = some (.int .u8 ((rd_T36 t254 x20_5).f2)) ∧ w'.cell? ⟨(ad265.add ((x20_5).toNat * 5)).block, (ad265.add ((x20_5).toNat * 5)).off + 3, none⟩ = some (.int .i64 ((rd_T36 t254 x20_5).f3)) ∧ w'.cell? ⟨(ad265.add ((x20_5).toNat * 5)).block, (ad265.add ((x20_5).toNat * 5)).off + 4, none⟩ = some (.int .i64 ((rd_T36 t254 x20_5).f4)) ∧ w'.cell? (ad265.add ((x20_5).toNat * 5)) = some (.int .u32 ((rd_T36 t254 x20_5).f0)) ∧ w'.cell? ⟨(ad265.add ((x20_5).toNat * 5)).block, (ad265.add ((x20_5).toNat * 5)).off + 1, none⟩ = some (.string ((rd_T36 t254 x20_5).f1)) ∧ w'.cell? ⟨(ad265.add ((x20_5).toNat * 5)).block, (ad265.add ((x20_5).toNat * 5)).off + 2, none⟩ = some (.int .u8 ((rd_T36 t254 x20_5).f2)) ∧ w'.cell? ⟨(ad265.add ((x20_5).toNat * 5)).block, (ad265.add ((x20_5).toNat * 5)).off + 3, none⟩ = some (.int .i64 ((rd_T36 t254 x20_5).f3)) ∧ w'.cell? ⟨(ad265.add ((x20_5).toNat * 5)).block, (ad265.add ((x20_5).toNat * 5)).off + 4, none⟩ = some (.int .i64 ((rd_T36 t254 x20_5).f4)) ∧ w'.cell? (ad265.add (((ji78)).toNat * 5)) = some (.int .u32 ((rd_T36 t254 (ji78)).f0)) ∧ w'.cell? ⟨(ad265.add (((ji78)).toNat * 5)).block, (ad265.add (((ji78)).toNat * 5)).off + 1, none⟩ = some (.string ((rd_T36 t254 (ji78)).f1)) ∧ w'.cell? ⟨(ad265.add (((ji78)).toNat * 5)).block, (ad265.add (((ji78)).toNat * 5)).off + 2, none⟩ = some (.int .u8 ((rd_T36 t254 (ji78)).f2)) ∧ w'.cell? ⟨(ad265.add (((ji78)).toNat * 5)).block, (ad265.add (((ji78)).toNat * 5)).off + 3, none⟩ = some (.int .i64 ((rd_T36 t254 (ji78)).f3)) ∧ w'.cell? ⟨(ad265.add (((ji78)).toNat * 5)).block, (ad265.add (((ji78)).toNat * 5)).off + 4, none⟩ = some (.int .i64 ((rd_T36 t254 (ji78)).f4)) ∧ w'.cell? (ad265.add ((x20_5).toNat * 5)) = some (.int .u32 ((rd_T36 t254 x20_5).f0)) ∧ w'.cell? ⟨(ad265.add ((x20_5).toNat * 5)).block, (ad265.add ((x20_5).toNat * 5)).off + 1, none⟩ = some (.string ((rd_T36 t254 x20_5).f1)) ∧ w'.cell? ⟨(ad265.add ((x20_5).toNat * 5)).block, (ad265.add ((x20_5).toNat * 5)).off + 2, none⟩ = some (.int .u8 ((rd_T36 t254 x20_5).f2)) ∧ w'.cell? ⟨(ad265.add ((x20_5).toNat * 5)).block, (ad265.add ((x20_5).toNat * 5)).off + 3, none⟩ = some (.int .i64 ((rd_T36 t254 x20_5).f3)) ∧ w'.cell? ⟨(ad265.add ((x20_5).toNat * 5)).block, (ad265.add ((x20_5).toNat * 5)).off + 4, none⟩ = some (.int .i64 ((rd_T36 t254 x20_5).f4)) ∧ w'.cell? (ad265.add ((x20_5).toNat * 5)) = some (.int .u32 ((rd_T36 t254 x20_5).f0)) ∧ w'.cell? ⟨(ad265.add ((x20_5).toNat * 5)).block, (ad265.add ((x20_5).toNat * 5)).off + 1, none⟩ = some (.string ((rd_T36 t254 x20_5).f1)) ∧ w'.cell? ⟨(ad265.add ((x20_5).toNat * 5)).block, (ad265.add ((x20_5).toNat * 5)).off + 2, none⟩ = some (.int .u8 ((rd_T36 t254 x20_5).f2)) ∧ w'.cell? ⟨(ad265.add ((x20_5).toNat * 5)).block, (ad265.add ((x20_5).toNat * 5)).off + 3, none⟩ = some (.int .i64 ((rd_T36 t254 x20_5).f3)) ∧ w'.cell? ⟨(ad265.add ((x20_5).toNat * 5)).block, (ad265.add ((x20_5).toNat * 5)).off + 4, none⟩ = some (.int .i64 ((rd_T36 t254 x20_5).f4))) (ds := []) (bs_ 41 0) (by kernel_rfl) rfl rfl ⟨hx265_0, hx265_1, hx265_2, hx265_3, hx265_4, hx266_0, hx266_1, hx266_2, hx266_3, hx266_4, hx267_0, hx267_1, hx267_2, hx267_3, hx267_4, hx268_0, hx268_1, hx268_2, hx268_3, hx268_4, hx269_0, hx269_1, hx269_2, hx269_3, hx269_4⟩ (fun hHeld => ?_); refine with_tabW tocsinlaw22_AlertsOthers.tab30 tocsinlaw22_AlertsOthers.bits30 (fun HT_ HW_ => ?_)
                         generalize wr.drew = w85 at HO_13 HO_19 HB hx265_0 hx265_1 hx265_2 hx265_3 hx265_4 hx266_0 hx266_1 hx266_2 hx266_3 hx266_4 hx267_0 hx267_1 hx267_2 hx267_3 hx267_4 hx268_0 hx268_1 hx268_2 hx268_3 hx268_4 hx269_0 hx269_1 hx269_2 hx269_3 hx269_4 hHeld ⊢
                         refine pure_ (i := 0) (N := some 169) (v := ?_) (a' := ?_) (bs_ 41 1) rfl rfl (any_of HT_.out (by kernel_rfl)) (fun _ _ _ h => h) (Or.inl ⟨by rfl, ?_⟩) ?_ ?_
                         rotate_left; (· intro w'; go_simp; with_reducible rfl); rotate_left; (· simp only [Act.put, s3_, s1_, s2_, i64_w, i32_w]; rfl)
                         refine pure_ (i := 1) (N := some 170) (v := ?_) (a' := ?_) (bs_ 41 3) rfl rfl (any_of HT_.out (by kernel_rfl)) (fun _ _ _ h => h) (Or.inl ⟨by rfl, ?_⟩) ?_ ?_
                         rotate_left; (· intro w'; go_simp; with_reducible rfl); rotate_left; (· simp only [Act.put, s3_, s1_, s2_, i64_w, i32_w]; rfl)
                         refine pure_ (i := 2) (N := some 171) (v := ?_) (a' := ?_) (bs_ 41 7) rfl rfl (any_of HT_.out (by kernel_rfl)) (fun _ _ _ h => h) (Or.inl ⟨by rfl, ?_⟩) ?_ ?_
                         rotate_left; (· intro w'; go_simp; with_reducible rfl); rotate_left; (· simp only [Act.put, s3_, s1_, s2_, i64_w, i32_w]; rfl)
                         refine pure_ (i := 3) (N := some 172) (v := ?_) (a' := ?_) (bs_ 41 15) rfl rfl (any_of HT_.out (by kernel_rfl)) (fun _ _ _ h => h) (Or.inl ⟨by rfl, ?_⟩) ?_ ?_
                         rotate_left; (· intro w'; go_simp; with_reducible rfl); rotate_left; (· simp only [Act.put, s3_, s1_, s2_, i64_w, i32_w]; rfl)
                         refine pure_ (i := 5) (N := some 174) (v := ?_) (a' := ?_) (bs_ 41 47) rfl rfl (any_of HT_.out (by kernel_rfl)) (fun _ _ _ h => h) (Or.inl ⟨by rfl, ?_⟩) ?_ ?_
                         rotate_left; (· intro w'; go_simp; with_reducible rfl); rotate_left; (· simp only [Act.put, s3_, s1_, s2_, i64_w, i32_w]; rfl)
                         refine take_ (i := 4) (N := some 173) (v := ?_) (a' := ?_) (bs_ 41 63) rfl rfl (take_ofW HT_.out HW_.out (by kernel_rfl)) (fun _ _ _ h => h) (Or.inl ⟨by rfl, ?_⟩) hHeld ?_ ?_
                         rotate_left; (· rintro w' ⟨s0, s1, s2, s3, s4, s5, s6, s7, s8, s9, s10, s11, s12, s13, s14, s15, s16, s17, s18, s19, s20, s21, s22, s23, s24⟩; go_simp; with_reducible rfl); rotate_left; (· simp only [Act.put, s3_, s1_, s2_, i64_w, i32_w]; rfl)
                         refine pure_ (i := 6) (N := some 175) (v := ?_) (a' := ?_) (bs_ 41 127) rfl rfl (any_of HT_.out (by kernel_rfl)) (fun _ _ _ h => h) (Or.inl ⟨by rfl, ?_⟩) ?_ ?_
                         rotate_left; (· intro w'; go_simp; with_reducible rfl); rotate_left; (· simp only [Act.put, s3_, s1_, s2_, i64_w, i32_w]; rfl)
                         refine pure_ (i := 7) (N := some 176) (v := ?_) (a' := ?_) (bs_ 41 255) rfl rfl (any_of HT_.out (by kernel_rfl)) (fun _ _ _ h => h) (Or.inl ⟨by rfl, ?_⟩) ?_ ?_
                         rotate_left; (· intro w'; go_simp; with_reducible rfl); rotate_left; (· simp only [Act.put, s3_, s1_, s2_, i64_w, i32_w]; rfl)
                         refine pure_ (i := 8) (N := some 177) (v := ?_) (a' := ?_) (bs_ 41 511) rfl rfl (any_of HT_.out (by kernel_rfl)) (fun _ _ _ h => h) (Or.inl ⟨by rfl, ?_⟩) ?_ ?_
                         rotate_left; (· intro w'; go_simp; with_reducible rfl); rotate_left; (· simp only [Act.put, s3_, s1_, s2_, i64_w, i32_w]; rfl)
                         refine pure_ (i := 9) (N := some 178) (v := ?_) (a' := ?_) (bs_ 41 1023) rfl rfl (any_of HT_.out (by kernel_rfl)) (fun _ _ _ h => h) (Or.inl ⟨by rfl, ?_⟩) ?_ ?_
                         rotate_left; (· intro w'; go_simp; with_reducible rfl); rotate_left; (· simp only [Act.put, s3_, s1_, s2_, i64_w, i32_w]; rfl)
                         refine pure_ (i := 10) (N := some 179) (v := ?_) (a' := ?_) (bs_ 41 2047) rfl rfl (any_of HT_.out (by kernel_rfl)) (fun _ _ _ h => h) (Or.inl ⟨by rfl, ?_⟩) ?_ ?_
                         rotate_left; (· intro w'; go_simp; with_reducible rfl); rotate_left; (· simp only [Act.put, s3_, s1_, s2_, i64_w, i32_w]; rfl)
                         refine pure_ (i := 11) (N := some 180) (v := ?_) (a' := ?_) (bs_ 41 4095) rfl rfl (any_of HT_.out (by kernel_rfl)) (fun _ _ _ h => h) (Or.inl ⟨by rfl, ?_⟩) ?_ ?_
                         rotate_left; (· intro w'; go_simp; with_reducible rfl); rotate_left; (· simp only [Act.put, s3_, s1_, s2_, i64_w, i32_w]; rfl)
                         refine pure_ (i := 12) (N := some 181) (v := ?_) (a' := ?_) (bs_ 41 8191) rfl rfl (any_of HT_.out (by kernel_rfl)) (fun _ _ _ h => h) (Or.inl ⟨by rfl, ?_⟩) ?_ ?_
                         rotate_left; (· intro w'; go_simp; with_reducible rfl); rotate_left; (· simp only [Act.put, s3_, s1_, s2_, i64_w, i32_w]; rfl)
                         refine pure_ (i := 13) (N := some 182) (v := ?_) (a' := ?_) (bs_ 41 16383) rfl rfl (any_of HT_.out (by kernel_rfl)) (fun _ _ _ h => h) (Or.inl ⟨by rfl, ?_⟩) ?_ ?_
                         rotate_left; (· intro w'; go_simp; with_reducible rfl); rotate_left; (· simp only [Act.put, s3_, s1_, s2_, i64_w, i32_w]; rfl)
                         refine pure_ (i := 14) (N := some 183) (v := ?_) (a' := ?_) (bs_ 41 32767) rfl rfl (any_of HT_.out (by kernel_rfl)) (fun _ _ _ h => h) (Or.inl ⟨by rfl, ?_⟩) ?_ ?_
                         rotate_left; (· intro w'; go_simp; with_reducible rfl); rotate_left; (· simp only [Act.put, s3_, s1_, s2_, i64_w, i32_w]; rfl)
                         refine pure_ (i := 16) (N := some 185) (v := ?_) (a' := ?_) (bs_ 41 98303) rfl rfl (any_of HT_.out (by kernel_rfl)) (fun _ _ _ h => h) (Or.inl ⟨by rfl, ?_⟩) ?_ ?_
                         rotate_left; (· intro w'; go_simp; with_reducible rfl); rotate_left; (· simp only [Act.put, s3_, s1_, s2_, i64_w, i32_w]; rfl)
                         refine pure_ (i := 17) (N := some 186) (v := ?_) (a' := ?_) (bs_ 41 229375) rfl rfl (any_of HT_.out (by kernel_rfl)) (fun _ _ _ h => h) (Or.inl ⟨by rfl, ?_⟩) ?_ ?_
                         rotate_left; (· intro w'; go_simp; with_reducible rfl); rotate_left; (· simp only [Act.put, s3_, s1_, s2_, i64_w, i32_w]; rfl)
                         refine pure_ (i := 18) (N := some 187) (v := ?_) (a' := ?_) (bs_ 41 491519) rfl rfl (any_of HT_.out (by kernel_rfl)) (fun _ _ _ h => h) (Or.inl ⟨by rfl, ?_⟩) ?_ ?_
                         rotate_left; (· intro w'; go_simp; with_reducible rfl); rotate_left; (· simp only [Act.put, s3_, s1_, s2_, i64_w, i32_w]; rfl)
                         refine pure_ (i := 19) (N := some 188) (v := ?_) (a' := ?_) (bs_ 41 1015807) rfl rfl (any_of HT_.out (by kernel_rfl)) (fun _ _ _ h => h) (Or.inl ⟨by rfl, ?_⟩) ?_ ?_
                         rotate_left; (· intro w'; go_simp; with_reducible rfl); rotate_left; (· simp only [Act.put, s3_, s1_, s2_, i64_w, i32_w]; rfl)
                         refine pure_ (i := 20) (N := some 189) (v := ?_) (a' := ?_) (bs_ 41 2064383) rfl rfl (any_of HT_.out (by kernel_rfl)) (fun _ _ _ h => h) (Or.inl ⟨by rfl, ?_⟩) ?_ ?_
                         rotate_left; (· intro w'; go_simp; with_reducible rfl); rotate_left; (· simp only [Act.put, s3_, s1_, s2_, i64_w, i32_w]; rfl)
                         refine take_ (i := 15) (N := some 184) (v := ?_) (a' := ?_) (bs_ 41 2097151) rfl rfl (take_ofW HT_.out HW_.out (by kernel_rfl)) (fun _ _ _ h => h) (Or.inl ⟨by rfl, ?_⟩) hHeld ?_ ?_
                         rotate_left; (· rintro w' ⟨s0, s1, s2, s3, s4, s5, s6, s7, s8, s9, s10, s11, s12, s13, s14, s15, s16, s17, s18, s19, s20, s21, s22, s23, s24⟩; go_simp; with_reducible rfl); rotate_left; (· simp only [Act.put, s3_, s1_, s2_, i64_w, i32_w]; rfl)
                         refine take_ (i := 21) (N := some 190) (v := ?_) (a' := ?_) (bs_ 41 4194303) rfl rfl (take_ofW HT_.out HW_.out (by kernel_rfl)) (fun _ _ _ h => h) (Or.inl ⟨by rfl, ?_⟩) hHeld ?_ ?_
                         rotate_left; (· rintro w' ⟨s0, s1, s2, s3, s4, s5, s6, s7, s8, s9, s10, s11, s12, s13, s14, s15, s16, s17, s18, s19, s20, s21, s22, s23, s24⟩; go_simp; with_reducible rfl); rotate_left; (· simp only [Act.put, s3_, s1_, s2_, i64_w, i32_w]; rfl)
                         refine pure_ (i := 22) (N := some 191) (v := ?_) (a' := ?_) (bs_ 41 8388607) rfl rfl (any_of HT_.out (by kernel_rfl)) (fun _ _ _ h => h) (Or.inl ⟨by rfl, ?_⟩) ?_ ?_
                         rotate_left; (· intro w'; go_simp; with_reducible rfl); rotate_left; (· simp only [Act.put, s3_, s1_, s2_, i64_w, i32_w]; rfl)
                         refine pure_ (i := 23) (N := some 192) (v := ?_) (a' := ?_) (bs_ 41 16777215) rfl rfl (any_of HT_.out (by kernel_rfl)) (fun _ _ _ h => h) (Or.inl ⟨by rfl, ?_⟩) ?_ ?_
                         rotate_left; (· intro w'; go_simp; with_reducible rfl); rotate_left; (· simp only [Act.put, s3_, s1_, s2_, i64_w, i32_w]; rfl)
                         refine pure_ (i := 24) (N := some 193) (v := ?_) (a' := ?_) (bs_ 41 33554431) rfl rfl (any_of HT_.out (by kernel_rfl)) (fun _ _ _ h => h) (Or.inl ⟨by rfl, ?_⟩) ?_ ?_
                         rotate_left; (· intro w'; go_simp; with_reducible rfl); rotate_left; (· simp only [Act.put, s3_, s1_, s2_, i64_w, i32_w]; rfl)
                         refine pure_ (i := 25) (N := some 194) (v := ?_) (a' := ?_) (bs_ 41 67108863) rfl rfl (any_of HT_.out (by kernel_rfl)) (fun _ _ _ h => h) (Or.inl ⟨by rfl, ?_⟩) ?_ ?_
                         rotate_left; (· intro w'; go_simp; with_reducible rfl); rotate_left; (· simp only [Act.put, s3_, s1_, s2_, i64_w, i32_w]; rfl)
                         refine pure_ (i := 26) (N := some 195) (v := ?_) (a' := ?_) (bs_ 41 134217727) rfl rfl (any_of HT_.out (by kernel_rfl)) (fun _ _ _ h => h) (Or.inl ⟨by rfl, ?_⟩) ?_ ?_
                         rotate_left; (· intro w'; go_simp; with_reducible rfl); rotate_left; (· simp only [Act.put, s3_, s1_, s2_, i64_w, i32_w]; rfl)
                         refine pure_ (i := 27) (N := some 196) (v := ?_) (a' := ?_) (bs_ 41 268435455) rfl rfl (any_of HT_.out (by kernel_rfl)) (fun _ _ _ h => h) (Or.inl ⟨by rfl, ?_⟩) ?_ ?_
                         rotate_left; (· intro w'; go_simp; with_reducible rfl); rotate_left; (· simp only [Act.put, s3_, s1_, s2_, i64_w, i32_w]; rfl)
                         refine pure_ (i := 28) (N := some 197) (v := ?_) (a' := ?_) (bs_ 41 536870911) rfl rfl (any_of HT_.out (by kernel_rfl)) (fun _ _ _ h => h) (Or.inl ⟨by rfl, ?_⟩) ?_ ?_
                         rotate_left; (· intro w'; go_simp; with_reducible rfl); rotate_left; (· simp only [Act.put, s3_, s1_, s2_, i64_w, i32_w]; rfl)
                         refine pure_ (i := 29) (N := some 198) (v := ?_) (a' := ?_) (bs_ 41 1073741823) rfl rfl (any_of HT_.out (by kernel_rfl)) (fun _ _ _ h => h) (Or.inl ⟨by rfl, ?_⟩) ?_ ?_
                         rotate_left; (· intro w'; go_simp; with_reducible rfl); rotate_left; (· simp only [Act.put, s3_, s1_, s2_, i64_w, i32_w]; rfl)
                         refine pure_ (i := 32) (N := some 201) (v := ?_) (a' := ?_) (bs_ 41 5368709119) rfl rfl (any_of HT_.out (by kernel_rfl)) (fun _ _ _ h => h) (Or.inl ⟨by rfl, ?_⟩) ?_ ?_
                         rotate_left; (· intro w'; go_simp; with_reducible rfl); rotate_left; (· simp only [Act.put, s3_, s1_, s2_, i64_w, i32_w]; rfl)
                         refine pure_ (i := 33) (N := some 202) (v := ?_) (a' := ?_) (bs_ 41 13958643711) rfl rfl (any_of HT_.out (by kernel_rfl)) (fun _ _ _ h => h) (Or.inl ⟨by rfl, ?_⟩) ?_ ?_
                         rotate_left; (· intro w'; go_simp; with_reducible rfl); rotate_left; (· simp only [Act.put, s3_, s1_, s2_, i64_w, i32_w]; rfl)
                         refine pure_ (i := 34) (N := some 203) (v := ?_) (a' := ?_) (bs_ 41 31138512895) rfl rfl (any_of HT_.out (by kernel_rfl)) (fun _ _ _ h => h) (Or.inl ⟨by rfl, ?_⟩) ?_ ?_
                         rotate_left; (· intro w'; go_simp; with_reducible rfl); rotate_left; (· simp only [Act.put, s3_, s1_, s2_, i64_w, i32_w]; rfl)
                         refine pure_ (i := 35) (N := some 204) (v := ?_) (a' := ?_) (bs_ 41 65498251263) rfl rfl (any_of HT_.out (by kernel_rfl)) (fun _ _ _ h => h) (Or.inl ⟨by rfl, ?_⟩) ?_ ?_
                         rotate_left; (· intro w'; go_simp; with_reducible rfl); rotate_left; (· simp only [Act.put, s3_, s1_, s2_, i64_w, i32_w]; rfl)
                         refine pure_ (i := 36) (N := some 205) (v := ?_) (a' := ?_) (bs_ 41 134217727999) rfl rfl (any_of HT_.out (by kernel_rfl)) (fun _ _ _ h => h) (Or.inl ⟨by rfl, ?_⟩) ?_ ?_
                         rotate_left; (· intro w'; go_simp; with_reducible rfl); rotate_left; (· simp only [Act.put, s3_, s1_, s2_, i64_w, i32_w]; rfl)
                         refine take_ (i := 30) (N := some 199) (v := ?_) (a' := ?_) (bs_ 41 135291469823) rfl rfl (take_ofW HT_.out HW_.out (by kernel_rfl)) (fun _ _ _ h => h) (Or.inl ⟨by rfl, ?_⟩) hHeld ?_ ?_
                         rotate_left; (· rintro w' ⟨s0, s1, s2, s3, s4, s5, s6, s7, s8, s9, s10, s11, s12, s13, s14, s15, s16, s17, s18, s19, s20, s21, s22, s23, s24⟩; go_simp; with_reducible rfl); rotate_left; (· simp only [Act.put, s3_, s1_, s2_, i64_w, i32_w]; rfl)
                         refine pure_ (i := 31) (N := some 200) (v := ?_) (a' := ?_) (bs_ 41 137438953471) rfl rfl (any_of HT_.out (by kernel_rfl)) (fun _ _ _ h => h) (Or.inl ⟨by rfl, ?_⟩) ?_ ?_
                         rotate_left; (· intro w'; go_simp; with_reducible rfl); rotate_left; (· simp only [Act.put, s3_, s1_, s2_, i64_w, i32_w]; rfl)
                         refine take_ (i := 37) (N := some 206) (v := ?_) (a' := ?_) (bs_ 41 274877906943) rfl rfl (take_ofW HT_.out HW_.out (by kernel_rfl)) (fun _ _ _ h => h) (Or.inl ⟨by rfl, ?_⟩) hHeld ?_ ?_
                         rotate_left; (· rintro w' ⟨s0, s1, s2, s3, s4, s5, s6, s7, s8, s9, s10, s11, s12, s13, s14, s15, s16, s17, s18, s19, s20, s21, s22, s23, s24⟩; go_simp; with_reducible rfl); rotate_left; (· simp only [Act.put, s3_, s1_, s2_, i64_w, i32_w]; rfl)
                         refine one_ (i := 38) (N := some 207) (bs_ 41 549755813887) rfl rfl (one_of HT_.out (by kernel_rfl)) (by decide) (fun K hK => ?_)
                         refine goes_ Try.func12 (by kernel_rfl) rfl #[.slice A5 l5.length c5, .string ((rd_T36 t254 x20_5).f1)] (by rfl) rfl rfl (by (try simp only [List.map_toArray, List.map_cons, List.map_nil]); first | done | rfl | (simp only [List.length_drop, List.length_take]; rfl)) ?_
                         with_reducible refine (tocsinref22_Has.calls k5 _ _ l5 ((rd_T36 t254 x20_5).f1) t270 _ ?side1 ?side2 A82.out).mono ?_
                         (case side1 => repeat (first | exact (Kd.C_below HR5.out HB.out) | (with_reducible refine Kd.C_alloc ?_ _) | (with_reducible refine Kd.C_drewN ?_ _) | (with_reducible refine Kd.C_drew ?_)))
                         (case side2 => exact HC5.out)
                         rintro e w' ⟨rfl, ⟨nd, rfl⟩⟩
                         refine ⟨_, rfl, ?_⟩
                         refine hK.out _ _ ⟨hHeld.1, hHeld.2.1, hHeld.2.2.1, hHeld.2.2.2.1, hHeld.2.2.2.2.1, hHeld.2.2.2.2.2.1, hHeld.2.2.2.2.2.2.1, hHeld.2.2.2.2.2.2.2.1, hHeld.2.2.2.2.2.2.2.2.1, hHeld.2.2.2.2.2.2.2.2.2.1, hHeld.2.2.2.2.2.2.2.2.2.2.1, hHeld.2.2.2.2.2.2.2.2.2.2.2.1, hHeld.2.2.2.2.2.2.2.2.2.2.2.2.1, hHeld.2.2.2.2.2.2.2.2.2.2.2.2.2.1, hHeld.2.2.2.2.2.2.2.2.2.2.2.2.2.2.1, hHeld.2.2.2.2.2.2.2.2.2.2.2.2.2.2.2.1, hHeld.2.2.2.2.2.2.2.2.2.2.2.2.2.2.2.2.1, hHeld.2.2.2.2.2.2.2.2.2.2.2.2.2.2.2.2.2.1, hHeld.2.2.2.2.2.2.2.2.2.2.2.2.2.2.2.2.2.2.1, hHeld.2.2.2.2.2.2.2.2.2.2.2.2.2.2.2.2.2.2.2.1, hHeld.2.2.2.2.2.2.2.2.2.2.2.2.2.2.2.2.2.2.2.2.1, hHeld.2.2.2.2.2.2.2.2.2.2.2.2.2.2.2.2.2.2.2.2.2.1, hHeld.2.2.2.2.2.2.2.2.2.2.2.2.2.2.2.2.2.2.2.2.2.2.1, hHeld.2.2.2.2.2.2.2.2.2.2.2.2.2.2.2.2.2.2.2.2.2.2.2.1, hHeld.2.2.2.2.2.2.2.2.2.2.2.2.2.2.2.2.2.2.2.2.2.2.2.2⟩ (fun hHeld => ?_)
                         clear hK K
                         refine norm_ (a' := ?_) ?_ ?_
                         rotate_left
                         ·show Act.put _ (some 207) _ = _
                          simp only [Act.put, s3_, s1_, s2_, i64_w, i32_w]
                          rfl
                         refine pure_ (i := 39) (N := some 208) (v := ?_) (a' := ?_) (bs_ 41 1099511627775) rfl rfl (any_of HT_.out (by kernel_rfl)) (fun _ _ _ h => h) (Or.inl ⟨by rfl, ?_⟩) ?_ ?_
                         rotate_left; (· intro w'; go_simp; with_reducible rfl); rotate_left; (· simp only [Act.put, s3_, s1_, s2_, i64_w, i32_w]; rfl)
                         refine pure_ (i := 40) (N := some 209) (v := ?_) (a' := ?_) (bs_ 41 2199023255551) rfl rfl (any_of HT_.out (by kernel_rfl)) (fun _ _ _ h => h) (Or.inl ⟨by rfl, ?_⟩) ?_ ?_
                         rotate_left; (· intro w'; go_simp; with_reducible rfl); rotate_left; (· simp only [Act.put, s3_, s1_, s2_, i64_w, i32_w]; rfl)
                         refine done_ (done_of HT_.out (by kernel_rfl)) ?_
                         try go_wp2
                         go_ret
                         exact ⟨by first | rfl | (simp [errW_none, errW_some] <;> rfl) | (simp only [Opn.bne_nil, Opn.beq_nil]; done) | (simp [Opn.bne_nil, Opn.beq_nil]; done) | (simp only [← hji78]; first | rfl | (simp [errW_none, errW_some] <;> rfl)) | (simp [*, errW_none, errW_some] <;> rfl), by repeat (first | (with_reducible first | exact HB.out | apply below_alloc | apply pw_below_drewN | apply below_drew1) | exact HB.out)⟩
                       ·rw [if_neg c83] at H
                        have c83b0 : ((((rd_T36 t254 x20_5).f2) != 0) != t270) = false := by simpa using c83
                        (try (have c83b1 : decide ((((rd_T36 t254 x20_5).f2) != 0) = t270) = true := by simpa using c83))
                        (try (have c83b2 : ((((rd_T36 t254 x20_5).f2) != 0) == t270) = true := by simpa using c83))
                        clear c83
                        have H' := Aside0.mk H
                        clear H
                        obtain ⟨Ao86, co86, eo86⟩ := Kd.R_slice HO_19.out
                        subst eo86
                        try go_wp2
                        have n0_ := Aside0.mk (Kd.R_drew HO_13.out)
                        have n1_ := Aside0.mk (Kd.R_drew HO_19.out)
                        have n2_ := Aside0.mk (below_drew1 HB.out)
                        clear HO_13; clear HO_19; clear HB; have HO_13 := n0_; have HO_19 := n1_; have HB := n2_
                        clear n0_ n1_ n2_
                        have p265 : 0 ≤ (x20_5 : Int) := of_decide_eq_true (by first | (with_reducible assumption) | assumption)
                        have q265 : x20_5 < (t254.length : Int) := of_decide_eq_true (by first | (with_reducible assumption) | assumption)
                        obtain ⟨ad265, e265, hx265_0, hx265_1, hx265_2, hx265_3, hx265_4⟩ := at_T36 (Kd.R_reads' HO_19.out).2.2 x20_5 p265 q265
                        cases e265
                        replace p265 := eq_true p265; replace q265 := eq_true q265
                        have p266 : 0 ≤ (x20_5 : Int) := of_decide_eq_true (by first | (with_reducible assumption) | assumption)
                        have q266 : x20_5 < (t254.length : Int) := of_decide_eq_true (by first | (with_reducible assumption) | assumption)
                        obtain ⟨ad266, e266, hx266_0, hx266_1, hx266_2, hx266_3, hx266_4⟩ := at_T36 (Kd.R_reads' HO_19.out).2.2 x20_5 p266 q266
                        obtain rfl : ad265 = ad266 := (by injection e266)
                        replace p266 := eq_true p266; replace q266 := eq_true q266
                        have p267 : 0 ≤ ((ji78) : Int) := of_decide_eq_true (by first | (with_reducible assumption) | assumption)
                        have q267 : (ji78) < (t254.length : Int) := of_decide_eq_true (by first | (with_reducible assumption) | assumption)
                        obtain ⟨ad267, e267, hx267_0, hx267_1, hx267_2, hx267_3, hx267_4⟩ := at_T36 (Kd.R_reads' HO_19.out).2.2 (ji78) p267 q267
                        obtain rfl : ad265 = ad267 := (by injection e267)
                        replace p267 := eq_true p267; replace q267 := eq_true q267
                        have p268 : 0 ≤ (x20_5 : Int) := of_decide_eq_true (by first | (with_reducible assumption) | assumption)
                        have q268 : x20_5 < (t254.length : Int) := of_decide_eq_true (by first | (with_reducible assumption) | assumption)
                        obtain ⟨ad268, e268, hx268_0, hx268_1, hx268_2, hx268_3, hx268_4⟩ := at_T36 (Kd.R_reads' HO_19.out).2.2 x20_5 p268 q268
                        obtain rfl : ad265 = ad268 := (by injection e268)
                        replace p268 := eq_true p268; replace q268 := eq_true q268
                        have p269 : 0 ≤ (x20_5 : Int) := of_decide_eq_true (by first | (with_reducible assumption) | assumption)
                        have q269 : x20_5 < (t254.length : Int) := of_decide_eq_true (by first | (with_reducible assumption) | assumption)
                        obtain ⟨ad269, e269, hx269_0, hx269_1, hx269_2, hx269_3, hx269_4⟩ := at_T36 (Kd.R_reads' HO_19.out).2.2 x20_5 p269 q269
                        obtain rfl : ad265 = ad269 := (by injection e269)
                        replace p269 := eq_true p269; replace q269 := eq_true q269
                        as_aux_lemma =>
                         refine start_ (n := 41) (S := fun w' => w'.cell? (ad265.add ((x20_5).toNat * 5)) = some (.int .u32 ((rd_T36 t254 x20_5).f0)) ∧ w'.cell? ⟨(ad265.add ((x20_5).toNat * 5)).block, (ad265.add ((x20_5).toNat * 5)).off + 1, none⟩ = some (.string ((rd_T36 t254 x20_5).f1)) ∧ w'.cell? ⟨(ad265.add ((x20_5).toNat * 5)).block, (ad265.add ((x20_5).toNat * 5)).off + 2, none⟩ = some (.int .u8 ((rd_T36 t254 x20_5).f2)) ∧ w'.cell? ⟨(ad265.add ((x20_5).toNat * 5)).block, (ad265.add ((x20_5).toNat * 5)).off + 3, none⟩ = some (.int .i64 ((rd_T36 t254 x20_5).f3)) ∧ w'.cell? ⟨(ad265.add ((x20_5).toNat * 5)).block, (ad265.add ((x20_5).toNat * 5)).off + 4, none⟩ = some (.int .i64 ((rd_T36 t254 x20_5).f4)) ∧ w'.cell? (ad265.add ((x20_5).toNat * 5)) = some (.int .u32 ((rd_T36 t254 x20_5).f0)) ∧ w'.cell? ⟨(ad265.add ((x20_5).toNat * 5)).block, (ad265.add ((x20_5).toNat * 5)).off + 1, none⟩ = some (.string ((rd_T36 t254 x20_5).f1)) ∧ w'.cell? ⟨(ad265.add ((x20_5).toNat * 5)).block, (ad265.add ((x20_5).toNat * 5)).off + 2, none⟩ = some (.int .u8 ((rd_T36 t254 x20_5).f2)) ∧ w'.cell? ⟨(ad265.add ((x20_5).toNat * 5)).block, (ad265.add ((x20_5).toNat * 5)).off + 3, none⟩ = some (.int .i64 ((rd_T36 t254 x20_5).f3)) ∧ w'.cell? ⟨(ad265.add ((x20_5).toNat * 5)).block, (ad265.add ((x20_5).toNat * 5)).off + 4, none⟩ = some (.int .i64 ((rd_T36 t254 x20_5).f4)) ∧ w'.cell? (ad265.add (((ji78)).toNat * 5)) = some (.int .u32 ((rd_T36 t254 (ji78)).f0)) ∧ w'.cell? ⟨(ad265.add (((ji78)).toNat * 5)).block, (ad265.add (((ji78)).toNat * 5)).off + 1, none⟩ = some (.string ((rd_T36 t254 (ji78)).f1)) ∧ w'.cell? ⟨(ad265.add (((ji78)).toNat * 5)).block, (ad265.add (((ji78)).toNat * 5)).off + 2, none⟩ = some (.int .u8 ((rd_T36 t254 (ji78)).f2)) ∧ w'.cell? ⟨(ad265.add (((ji78)).toNat * 5)).block, (ad265.add (((ji78)).toNat * 5)).off + 3, none⟩ = some (.int .i64 ((rd_T36 t254 (ji78)).f3)) ∧ w'.cell? ⟨(ad265.add (((ji78)).toNat * 5)).block, (ad265.add (((ji78)).toNat * 5)).off + 4, none⟩ = some (.int .i64 ((rd_T36 t254 (ji78)).f4)) ∧ w'.cell? (ad265.add ((x20_5).toNat * 5)) = some (.int .u32 ((rd_T36 t254 x20_5).f0)) ∧ w'.cell? ⟨(ad265.add ((x20_5).toNat * 5)).block, (ad265.add ((x20_5).toNat * 5)).off + 1, none⟩ = some (.string ((rd_T36 t254 x20_5).f1)) ∧ w'.cell? ⟨(ad265.add ((x20_5).toNat * 5)).block, (ad265.add ((x20_5).toNat * 5)).off + 2, none⟩ = some (.int .u8 ((rd_T36 t254 x20_5).f2)) ∧ w'.cell? ⟨(ad265.add ((x20_5).toNat * 5)).block, (ad265.add ((x20_5).toNat * 5)).off + 3, none⟩ = some (.int .i64 ((rd_T36 t254 x20_5).f3)) ∧ w'.cell? ⟨(ad265.add ((x20_5).toNat * 5)).block, (ad265.add ((x20_5).toNat * 5)).off + 4, none⟩ = some (.int .i64 ((rd_T36 t254 x20_5).f4)) ∧ w'.cell? (ad265.add ((x20_5).toNat * 5)) = some (.int .u32 ((rd_T36 t254 x20_5).f0)) ∧ w'.cell? ⟨(ad265.add ((x20_5).toNat * 5)).block, (ad265.add ((x20_5).toNat * 5)).off + 1, none⟩ = some (.string ((rd_T36 t254 x20_5).f1)) ∧ w'.cell? ⟨(ad265.add ((x20_5).toNat * 5)).block, (ad265.add ((x20_5).toNat * 5)).off + 2, none⟩ = some (.int .u8 ((rd_T36 t254 x20_5).f2)) ∧ w'.cell? ⟨(ad265.add ((x20_5).toNat * 5)).block, (ad265.add ((x20_5).toNat * 5)).off + 3, none⟩ = some (.int .i64 ((rd_T36 t254 x20_5).f3)) ∧ w'.cell? ⟨(ad265.add ((x20_5).toNat * 5)).block, (ad265.add ((x20_5).toNat * 5)).off + 4, none⟩ = some (.int .i64 ((rd_T36 t254 x20_5).f4))) (ds := []) (bs_ 41 0) (by kernel_rfl) rfl rfl ⟨hx265_0, hx265_1, hx265_2, hx265_3, hx265_4, hx266_0, hx266_1, hx266_2, hx266_3, hx266_4, hx267_0, hx267_1, hx267_2, hx267_3, hx267_4, hx268_0, hx268_1, hx268_2, hx268_3, hx268_4, hx269_0, hx269_1, hx269_2, hx269_3, hx269_4⟩ (fun hHeld => ?_); refine with_tabW tocsinlaw22_AlertsOthers.tab30 tocsinlaw22_AlertsOthers.bits30 (fun HT_ HW_ => ?_)
                         generalize wr.drew = w87 at HO_13 HO_19 HB hx265_0 hx265_1 hx265_2 hx265_3 hx265_4 hx266_0 hx266_1 hx266_2 hx266_3 hx266_4 hx267_0 hx267_1 hx267_2 hx267_3 hx267_4 hx268_0 hx268_1 hx268_2 hx268_3 hx268_4 hx269_0 hx269_1 hx269_2 hx269_3 hx269_4 hHeld ⊢
                         refine pure_ (i := 0) (N := some 169) (v := ?_) (a' := ?_) (bs_ 41 1) rfl rfl (any_of HT_.out (by kernel_rfl)) (fun _ _ _ h => h) (Or.inl ⟨by rfl, ?_⟩) ?_ ?_
                         rotate_left; (· intro w'; go_simp; with_reducible rfl); rotate_left; (· simp only [Act.put, s3_, s1_, s2_, i64_w, i32_w]; rfl)
                         refine pure_ (i := 1) (N := some 170) (v := ?_) (a' := ?_) (bs_ 41 3) rfl rfl (any_of HT_.out (by kernel_rfl)) (fun _ _ _ h => h) (Or.inl ⟨by rfl, ?_⟩) ?_ ?_
                         rotate_left; (· intro w'; go_simp; with_reducible rfl); rotate_left; (· simp only [Act.put, s3_, s1_, s2_, i64_w, i32_w]; rfl)
                         refine pure_ (i := 2) (N := some 171) (v := ?_) (a' := ?_) (bs_ 41 7) rfl rfl (any_of HT_.out (by kernel_rfl)) (fun _ _ _ h => h) (Or.inl ⟨by rfl, ?_⟩) ?_ ?_
                         rotate_left; (· intro w'; go_simp; with_reducible rfl); rotate_left; (· simp only [Act.put, s3_, s1_, s2_, i64_w, i32_w]; rfl)
                         refine pure_ (i := 3) (N := some 172) (v := ?_) (a' := ?_) (bs_ 41 15) rfl rfl (any_of HT_.out (by kernel_rfl)) (fun _ _ _ h => h) (Or.inl ⟨by rfl, ?_⟩) ?_ ?_
                         rotate_left; (· intro w'; go_simp; with_reducible rfl); rotate_left; (· simp only [Act.put, s3_, s1_, s2_, i64_w, i32_w]; rfl)
                         refine pure_ (i := 5) (N := some 174) (v := ?_) (a' := ?_) (bs_ 41 47) rfl rfl (any_of HT_.out (by kernel_rfl)) (fun _ _ _ h => h) (Or.inl ⟨by rfl, ?_⟩) ?_ ?_
                         rotate_left; (· intro w'; go_simp; with_reducible rfl); rotate_left; (· simp only [Act.put, s3_, s1_, s2_, i64_w, i32_w]; rfl)
                         refine take_ (i := 4) (N := some 173) (v := ?_) (a' := ?_) (bs_ 41 63) rfl rfl (take_ofW HT_.out HW_.out (by kernel_rfl)) (fun _ _ _ h => h) (Or.inl ⟨by rfl, ?_⟩) hHeld ?_ ?_
                         rotate_left; (· rintro w' ⟨s0, s1, s2, s3, s4, s5, s6, s7, s8, s9, s10, s11, s12, s13, s14, s15, s16, s17, s18, s19, s20, s21, s22, s23, s24⟩; go_simp; with_reducible rfl); rotate_left; (· simp only [Act.put, s3_, s1_, s2_, i64_w, i32_w]; rfl)
                         refine pure_ (i := 6) (N := some 175) (v := ?_) (a' := ?_) (bs_ 41 127) rfl rfl (any_of HT_.out (by kernel_rfl)) (fun _ _ _ h => h) (Or.inl ⟨by rfl, ?_⟩) ?_ ?_
                         rotate_left; (· intro w'; go_simp; with_reducible rfl); rotate_left; (· simp only [Act.put, s3_, s1_, s2_, i64_w, i32_w]; rfl)
                         refine pure_ (i := 7) (N := some 176) (v := ?_) (a' := ?_) (bs_ 41 255) rfl rfl (any_of HT_.out (by kernel_rfl)) (fun _ _ _ h => h) (Or.inl ⟨by rfl, ?_⟩) ?_ ?_
                         rotate_left; (· intro w'; go_simp; with_reducible rfl); rotate_left; (· simp only [Act.put, s3_, s1_, s2_, i64_w, i32_w]; rfl)
                         refine pure_ (i := 8) (N := some 177) (v := ?_) (a' := ?_) (bs_ 41 511) rfl rfl (any_of HT_.out (by kernel_rfl)) (fun _ _ _ h => h) (Or.inl ⟨by rfl, ?_⟩) ?_ ?_
                         rotate_left; (· intro w'; go_simp; with_reducible rfl); rotate_left; (· simp only [Act.put, s3_, s1_, s2_, i64_w, i32_w]; rfl)
                         refine pure_ (i := 9) (N := some 178) (v := ?_) (a' := ?_) (bs_ 41 1023) rfl rfl (any_of HT_.out (by kernel_rfl)) (fun _ _ _ h => h) (Or.inl ⟨by rfl, ?_⟩) ?_ ?_
                         rotate_left; (· intro w'; go_simp; with_reducible rfl); rotate_left; (· simp only [Act.put, s3_, s1_, s2_, i64_w, i32_w]; rfl)
                         refine pure_ (i := 10) (N := some 179) (v := ?_) (a' := ?_) (bs_ 41 2047) rfl rfl (any_of HT_.out (by kernel_rfl)) (fun _ _ _ h => h) (Or.inl ⟨by rfl, ?_⟩) ?_ ?_
                         rotate_left; (· intro w'; go_simp; with_reducible rfl); rotate_left; (· simp only [Act.put, s3_, s1_, s2_, i64_w, i32_w]; rfl)
                         refine pure_ (i := 11) (N := some 180) (v := ?_) (a' := ?_) (bs_ 41 4095) rfl rfl (any_of HT_.out (by kernel_rfl)) (fun _ _ _ h => h) (Or.inl ⟨by rfl, ?_⟩) ?_ ?_
                         rotate_left; (· intro w'; go_simp; with_reducible rfl); rotate_left; (· simp only [Act.put, s3_, s1_, s2_, i64_w, i32_w]; rfl)
                         refine pure_ (i := 12) (N := some 181) (v := ?_) (a' := ?_) (bs_ 41 8191) rfl rfl (any_of HT_.out (by kernel_rfl)) (fun _ _ _ h => h) (Or.inl ⟨by rfl, ?_⟩) ?_ ?_
                         rotate_left; (· intro w'; go_simp; with_reducible rfl); rotate_left; (· simp only [Act.put, s3_, s1_, s2_, i64_w, i32_w]; rfl)
                         refine pure_ (i := 13) (N := some 182) (v := ?_) (a' := ?_) (bs_ 41 16383) rfl rfl (any_of HT_.out (by kernel_rfl)) (fun _ _ _ h => h) (Or.inl ⟨by rfl, ?_⟩) ?_ ?_
                         rotate_left; (· intro w'; go_simp; with_reducible rfl); rotate_left; (· simp only [Act.put, s3_, s1_, s2_, i64_w, i32_w]; rfl)
                         refine pure_ (i := 14) (N := some 183) (v := ?_) (a' := ?_) (bs_ 41 32767) rfl rfl (any_of HT_.out (by kernel_rfl)) (fun _ _ _ h => h) (Or.inl ⟨by rfl, ?_⟩) ?_ ?_
                         rotate_left; (· intro w'; go_simp; with_reducible rfl); rotate_left; (· simp only [Act.put, s3_, s1_, s2_, i64_w, i32_w]; rfl)
                         refine pure_ (i := 16) (N := some 185) (v := ?_) (a' := ?_) (bs_ 41 98303) rfl rfl (any_of HT_.out (by kernel_rfl)) (fun _ _ _ h => h) (Or.inl ⟨by rfl, ?_⟩) ?_ ?_
                         rotate_left; (· intro w'; go_simp; with_reducible rfl); rotate_left; (· simp only [Act.put, s3_, s1_, s2_, i64_w, i32_w]; rfl)
                         refine pure_ (i := 17) (N := some 186) (v := ?_) (a' := ?_) (bs_ 41 229375) rfl rfl (any_of HT_.out (by kernel_rfl)) (fun _ _ _ h => h) (Or.inl ⟨by rfl, ?_⟩) ?_ ?_
                         rotate_left; (· intro w'; go_simp; with_reducible rfl); rotate_left; (· simp only [Act.put, s3_, s1_, s2_, i64_w, i32_w]; rfl)
                         refine pure_ (i := 18) (N := some 187) (v := ?_) (a' := ?_) (bs_ 41 491519) rfl rfl (any_of HT_.out (by kernel_rfl)) (fun _ _ _ h => h) (Or.inl ⟨by rfl, ?_⟩) ?_ ?_
                         rotate_left; (· intro w'; go_simp; with_reducible rfl); rotate_left; (· simp only [Act.put, s3_, s1_, s2_, i64_w, i32_w]; rfl)
                         refine pure_ (i := 19) (N := some 188) (v := ?_) (a' := ?_) (bs_ 41 1015807) rfl rfl (any_of HT_.out (by kernel_rfl)) (fun _ _ _ h => h) (Or.inl ⟨by rfl, ?_⟩) ?_ ?_
                         rotate_left; (· intro w'; go_simp; with_reducible rfl); rotate_left; (· simp only [Act.put, s3_, s1_, s2_, i64_w, i32_w]; rfl)
                         refine pure_ (i := 20) (N := some 189) (v := ?_) (a' := ?_) (bs_ 41 2064383) rfl rfl (any_of HT_.out (by kernel_rfl)) (fun _ _ _ h => h) (Or.inl ⟨by rfl, ?_⟩) ?_ ?_
                         rotate_left; (· intro w'; go_simp; with_reducible rfl); rotate_left; (· simp only [Act.put, s3_, s1_, s2_, i64_w, i32_w]; rfl)
                         refine take_ (i := 15) (N := some 184) (v := ?_) (a' := ?_) (bs_ 41 2097151) rfl rfl (take_ofW HT_.out HW_.out (by kernel_rfl)) (fun _ _ _ h => h) (Or.inl ⟨by rfl, ?_⟩) hHeld ?_ ?_
                         rotate_left; (· rintro w' ⟨s0, s1, s2, s3, s4, s5, s6, s7, s8, s9, s10, s11, s12, s13, s14, s15, s16, s17, s18, s19, s20, s21, s22, s23, s24⟩; go_simp; with_reducible rfl); rotate_left; (· simp only [Act.put, s3_, s1_, s2_, i64_w, i32_w]; rfl)
                         refine take_ (i := 21) (N := some 190) (v := ?_) (a' := ?_) (bs_ 41 4194303) rfl rfl (take_ofW HT_.out HW_.out (by kernel_rfl)) (fun _ _ _ h => h) (Or.inl ⟨by rfl, ?_⟩) hHeld ?_ ?_
                         rotate_left; (· rintro w' ⟨s0, s1, s2, s3, s4, s5, s6, s7, s8, s9, s10, s11, s12, s13, s14, s15, s16, s17, s18, s19, s20, s21, s22, s23, s24⟩; go_simp; with_reducible rfl); rotate_left; (· simp only [Act.put, s3_, s1_, s2_, i64_w, i32_w]; rfl)
                         refine pure_ (i := 22) (N := some 191) (v := ?_) (a' := ?_) (bs_ 41 8388607) rfl rfl (any_of HT_.out (by kernel_rfl)) (fun _ _ _ h => h) (Or.inl ⟨by rfl, ?_⟩) ?_ ?_
                         rotate_left; (· intro w'; go_simp; with_reducible rfl); rotate_left; (· simp only [Act.put, s3_, s1_, s2_, i64_w, i32_w]; rfl)
                         refine pure_ (i := 23) (N := some 192) (v := ?_) (a' := ?_) (bs_ 41 16777215) rfl rfl (any_of HT_.out (by kernel_rfl)) (fun _ _ _ h => h) (Or.inl ⟨by rfl, ?_⟩) ?_ ?_
                         rotate_left; (· intro w'; go_simp; with_reducible rfl); rotate_left; (· simp only [Act.put, s3_, s1_, s2_, i64_w, i32_w]; rfl)
                         refine pure_ (i := 24) (N := some 193) (v := ?_) (a' := ?_) (bs_ 41 33554431) rfl rfl (any_of HT_.out (by kernel_rfl)) (fun _ _ _ h => h) (Or.inl ⟨by rfl, ?_⟩) ?_ ?_
                         rotate_left; (· intro w'; go_simp; with_reducible rfl); rotate_left; (· simp only [Act.put, s3_, s1_, s2_, i64_w, i32_w]; rfl)
                         refine pure_ (i := 25) (N := some 194) (v := ?_) (a' := ?_) (bs_ 41 67108863) rfl rfl (any_of HT_.out (by kernel_rfl)) (fun _ _ _ h => h) (Or.inl ⟨by rfl, ?_⟩) ?_ ?_
                         rotate_left; (· intro w'; go_simp; with_reducible rfl); rotate_left; (· simp only [Act.put, s3_, s1_, s2_, i64_w, i32_w]; rfl)
                         refine pure_ (i := 26) (N := some 195) (v := ?_) (a' := ?_) (bs_ 41 134217727) rfl rfl (any_of HT_.out (by kernel_rfl)) (fun _ _ _ h => h) (Or.inl ⟨by rfl, ?_⟩) ?_ ?_
                         rotate_left; (· intro w'; go_simp; with_reducible rfl); rotate_left; (· simp only [Act.put, s3_, s1_, s2_, i64_w, i32_w]; rfl)
                         refine pure_ (i := 27) (N := some 196) (v := ?_) (a' := ?_) (bs_ 41 268435455) rfl rfl (any_of HT_.out (by kernel_rfl)) (fun _ _ _ h => h) (Or.inl ⟨by rfl, ?_⟩) ?_ ?_
                         rotate_left; (· intro w'; go_simp; with_reducible rfl); rotate_left; (· simp only [Act.put, s3_, s1_, s2_, i64_w, i32_w]; rfl)
                         refine pure_ (i := 28) (N := some 197) (v := ?_) (a' := ?_) (bs_ 41 536870911) rfl rfl (any_of HT_.out (by kernel_rfl)) (fun _ _ _ h => h) (Or.inl ⟨by rfl, ?_⟩) ?_ ?_
                         rotate_left; (· intro w'; go_simp; with_reducible rfl); rotate_left; (· simp only [Act.put, s3_, s1_, s2_, i64_w, i32_w]; rfl)
                         refine pure_ (i := 29) (N := some 198) (v := ?_) (a' := ?_) (bs_ 41 1073741823) rfl rfl (any_of HT_.out (by kernel_rfl)) (fun _ _ _ h => h) (Or.inl ⟨by rfl, ?_⟩) ?_ ?_
                         rotate_left; (· intro w'; go_simp; with_reducible rfl); rotate_left; (· simp only [Act.put, s3_, s1_, s2_, i64_w, i32_w]; rfl)
                         refine pure_ (i := 32) (N := some 201) (v := ?_) (a' := ?_) (bs_ 41 5368709119) rfl rfl (any_of HT_.out (by kernel_rfl)) (fun _ _ _ h => h) (Or.inl ⟨by rfl, ?_⟩) ?_ ?_
                         rotate_left; (· intro w'; go_simp; with_reducible rfl); rotate_left; (· simp only [Act.put, s3_, s1_, s2_, i64_w, i32_w]; rfl)
                         refine pure_ (i := 33) (N := some 202) (v := ?_) (a' := ?_) (bs_ 41 13958643711) rfl rfl (any_of HT_.out (by kernel_rfl)) (fun _ _ _ h => h) (Or.inl ⟨by rfl, ?_⟩) ?_ ?_
                         rotate_left; (· intro w'; go_simp; with_reducible rfl); rotate_left; (· simp only [Act.put, s3_, s1_, s2_, i64_w, i32_w]; rfl)
                         refine pure_ (i := 34) (N := some 203) (v := ?_) (a' := ?_) (bs_ 41 31138512895) rfl rfl (any_of HT_.out (by kernel_rfl)) (fun _ _ _ h => h) (Or.inl ⟨by rfl, ?_⟩) ?_ ?_
                         rotate_left; (· intro w'; go_simp; with_reducible rfl); rotate_left; (· simp only [Act.put, s3_, s1_, s2_, i64_w, i32_w]; rfl)
                         refine pure_ (i := 35) (N := some 204) (v := ?_) (a' := ?_) (bs_ 41 65498251263) rfl rfl (any_of HT_.out (by kernel_rfl)) (fun _ _ _ h => h) (Or.inl ⟨by rfl, ?_⟩) ?_ ?_
                         rotate_left; (· intro w'; go_simp; with_reducible rfl); rotate_left; (· simp only [Act.put, s3_, s1_, s2_, i64_w, i32_w]; rfl)
                         refine pure_ (i := 36) (N := some 205) (v := ?_) (a' := ?_) (bs_ 41 134217727999) rfl rfl (any_of HT_.out (by kernel_rfl)) (fun _ _ _ h => h) (Or.inl ⟨by rfl, ?_⟩) ?_ ?_
                         rotate_left; (· intro w'; go_simp; with_reducible rfl); rotate_left; (· simp only [Act.put, s3_, s1_, s2_, i64_w, i32_w]; rfl)
                         refine take_ (i := 30) (N := some 199) (v := ?_) (a' := ?_) (bs_ 41 135291469823) rfl rfl (take_ofW HT_.out HW_.out (by kernel_rfl)) (fun _ _ _ h => h) (Or.inl ⟨by rfl, ?_⟩) hHeld ?_ ?_
                         rotate_left; (· rintro w' ⟨s0, s1, s2, s3, s4, s5, s6, s7, s8, s9, s10, s11, s12, s13, s14, s15, s16, s17, s18, s19, s20, s21, s22, s23, s24⟩; go_simp; with_reducible rfl); rotate_left; (· simp only [Act.put, s3_, s1_, s2_, i64_w, i32_w]; rfl)
                         refine pure_ (i := 31) (N := some 200) (v := ?_) (a' := ?_) (bs_ 41 137438953471) rfl rfl (any_of HT_.out (by kernel_rfl)) (fun _ _ _ h => h) (Or.inl ⟨by rfl, ?_⟩) ?_ ?_
                         rotate_left; (· intro w'; go_simp; with_reducible rfl); rotate_left; (· simp only [Act.put, s3_, s1_, s2_, i64_w, i32_w]; rfl)
                         refine take_ (i := 37) (N := some 206) (v := ?_) (a' := ?_) (bs_ 41 274877906943) rfl rfl (take_ofW HT_.out HW_.out (by kernel_rfl)) (fun _ _ _ h => h) (Or.inl ⟨by rfl, ?_⟩) hHeld ?_ ?_
                         rotate_left; (· rintro w' ⟨s0, s1, s2, s3, s4, s5, s6, s7, s8, s9, s10, s11, s12, s13, s14, s15, s16, s17, s18, s19, s20, s21, s22, s23, s24⟩; go_simp; with_reducible rfl); rotate_left; (· simp only [Act.put, s3_, s1_, s2_, i64_w, i32_w]; rfl)
                         refine one_ (i := 38) (N := some 207) (bs_ 41 549755813887) rfl rfl (one_of HT_.out (by kernel_rfl)) (by decide) (fun K hK => ?_)
                         refine goes_ Try.func12 (by kernel_rfl) rfl #[.slice A5 l5.length c5, .string ((rd_T36 t254 x20_5).f1)] (by rfl) rfl rfl (by (try simp only [List.map_toArray, List.map_cons, List.map_nil]); first | done | rfl | (simp only [List.length_drop, List.length_take]; rfl)) ?_
                         with_reducible refine (tocsinref22_Has.calls k5 _ _ l5 ((rd_T36 t254 x20_5).f1) t270 _ ?side1 ?side2 A82.out).mono ?_
                         (case side1 => repeat (first | exact (Kd.C_below HR5.out HB.out) | (with_reducible refine Kd.C_alloc ?_ _) | (with_reducible refine Kd.C_drewN ?_ _) | (with_reducible refine Kd.C_drew ?_)))
                         (case side2 => exact HC5.out)
                         rintro e w' ⟨rfl, ⟨nd, rfl⟩⟩
                         refine ⟨_, rfl, ?_⟩
                         refine hK.out _ _ ⟨hHeld.1, hHeld.2.1, hHeld.2.2.1, hHeld.2.2.2.1, hHeld.2.2.2.2.1, hHeld.2.2.2.2.2.1, hHeld.2.2.2.2.2.2.1, hHeld.2.2.2.2.2.2.2.1, hHeld.2.2.2.2.2.2.2.2.1, hHeld.2.2.2.2.2.2.2.2.2.1, hHeld.2.2.2.2.2.2.2.2.2.2.1, hHeld.2.2.2.2.2.2.2.2.2.2.2.1, hHeld.2.2.2.2.2.2.2.2.2.2.2.2.1, hHeld.2.2.2.2.2.2.2.2.2.2.2.2.2.1, hHeld.2.2.2.2.2.2.2.2.2.2.2.2.2.2.1, hHeld.2.2.2.2.2.2.2.2.2.2.2.2.2.2.2.1, hHeld.2.2.2.2.2.2.2.2.2.2.2.2.2.2.2.2.1, hHeld.2.2.2.2.2.2.2.2.2.2.2.2.2.2.2.2.2.1, hHeld.2.2.2.2.2.2.2.2.2.2.2.2.2.2.2.2.2.2.1, hHeld.2.2.2.2.2.2.2.2.2.2.2.2.2.2.2.2.2.2.2.1, hHeld.2.2.2.2.2.2.2.2.2.2.2.2.2.2.2.2.2.2.2.2.1, hHeld.2.2.2.2.2.2.2.2.2.2.2.2.2.2.2.2.2.2.2.2.2.1, hHeld.2.2.2.2.2.2.2.2.2.2.2.2.2.2.2.2.2.2.2.2.2.2.1, hHeld.2.2.2.2.2.2.2.2.2.2.2.2.2.2.2.2.2.2.2.2.2.2.2.1, hHeld.2.2.2.2.2.2.2.2.2.2.2.2.2.2.2.2.2.2.2.2.2.2.2.2⟩ (fun hHeld => ?_)
                         clear hK K
                         refine norm_ (a' := ?_) ?_ ?_
                         rotate_left
                         ·show Act.put _ (some 207) _ = _
                          simp only [Act.put, s3_, s1_, s2_, i64_w, i32_w]
                          rfl
                         refine pure_ (i := 39) (N := some 208) (v := ?_) (a' := ?_) (bs_ 41 1099511627775) rfl rfl (any_of HT_.out (by kernel_rfl)) (fun _ _ _ h => h) (Or.inl ⟨by rfl, ?_⟩) ?_ ?_
                         rotate_left; (· intro w'; go_simp; with_reducible rfl); rotate_left; (· simp only [Act.put, s3_, s1_, s2_, i64_w, i32_w]; rfl)
                         refine pure_ (i := 40) (N := some 209) (v := ?_) (a' := ?_) (bs_ 41 2199023255551) rfl rfl (any_of HT_.out (by kernel_rfl)) (fun _ _ _ h => h) (Or.inl ⟨by rfl, ?_⟩) ?_ ?_
                         rotate_left; (· intro w'; go_simp; with_reducible rfl); rotate_left; (· simp only [Act.put, s3_, s1_, s2_, i64_w, i32_w]; rfl)
                         refine done_ (done_of HT_.out (by kernel_rfl)) ?_
                         try go_wp2
                         go_roundg k5
                         case measure => have := HJ8.out; have := HK2.out; have := HK3.out; have := HJ53.out; have := HK5.out; omega
                         case rel => exact ⟨(wrap64 (x20_5 + 1)), (by first | rfl | (simp; done) | (simp [*]; done)), H', ⟨by have := HJ8.out; have := HK2.out; have := HK3.out; have := HJ53.out; have := HK5.out; omega⟩, ⟨by (with_reducible repeat (first | apply Kd.R_alloc | apply Kd.R_drewN | apply Kd.R_drew)); exact HO_13.out⟩, ⟨by (with_reducible repeat (first | apply Kd.R_alloc | apply Kd.R_drewN | apply Kd.R_drew)); exact HO_19.out⟩, ⟨by repeat (first | (with_reducible first | exact HB.out | apply below_alloc | apply pw_below_drewN | apply below_drew1) | exact HB.out)⟩⟩
                      ·rw [if_neg c81] at H
                       have c81b0 : (Op.bytesLess (((rd_T36 t254 (ji78)).f1).toList) (((rd_T36 t254 x20_5).f1).toList)) = false := by simpa using c81
                       clear c81
                       obtain rfl := Option.some.inj H
                       obtain ⟨Ao88, co88, eo88⟩ := Kd.R_slice HO_19.out
                       subst eo88
                       try go_wp2
                       have n0_ := Aside0.mk (Kd.R_drew HO_13.out)
                       have n1_ := Aside0.mk (Kd.R_drew HO_19.out)
                       have n2_ := Aside0.mk (below_drew1 HB.out)
                       clear HO_13; clear HO_19; clear HB; have HO_13 := n0_; have HO_19 := n1_; have HB := n2_
                       clear n0_ n1_ n2_
                       have p265 : 0 ≤ (x20_5 : Int) := of_decide_eq_true (by first | (with_reducible assumption) | assumption)
                       have q265 : x20_5 < (t254.length : Int) := of_decide_eq_true (by first | (with_reducible assumption) | assumption)
                       obtain ⟨ad265, e265, hx265_0, hx265_1, hx265_2, hx265_3, hx265_4⟩ := at_T36 (Kd.R_reads' HO_19.out).2.2 x20_5 p265 q265
                       cases e265
                       replace p265 := eq_true p265; replace q265 := eq_true q265
                       have p266 : 0 ≤ (x20_5 : Int) := of_decide_eq_true (by first | (with_reducible assumption) | assumption)
                       have q266 : x20_5 < (t254.length : Int) := of_decide_eq_true (by first | (with_reducible assumption) | assumption)
                       obtain ⟨ad266, e266, hx266_0, hx266_1, hx266_2, hx266_3, hx266_4⟩ := at_T36 (Kd.R_reads' HO_19.out).2.2 x20_5 p266 q266
                       obtain rfl : ad265 = ad266 := (by injection e266)
                       replace p266 := eq_true p266; replace q266 := eq_true q266
                       have p267 : 0 ≤ ((ji78) : Int) := of_decide_eq_true (by first | (with_reducible assumption) | assumption)
                       have q267 : (ji78) < (t254.length : Int) := of_decide_eq_true (by first | (with_reducible assumption) | assumption)
                       obtain ⟨ad267, e267, hx267_0, hx267_1, hx267_2, hx267_3, hx267_4⟩ := at_T36 (Kd.R_reads' HO_19.out).2.2 (ji78) p267 q267
                       obtain rfl : ad265 = ad267 := (by injection e267)
                       replace p267 := eq_true p267; replace q267 := eq_true q267
                       as_aux_lemma =>
                        refine start_ (n := 41) (S := fun w' => w'.cell? (ad265.add ((x20_5).toNat * 5)) = some (.int .u32 ((rd_T36 t254 x20_5).f0)) ∧ w'.cell? ⟨(ad265.add ((x20_5).toNat * 5)).block, (ad265.add ((x20_5).toNat * 5)).off + 1, none⟩ = some (.string ((rd_T36 t254 x20_5).f1)) ∧ w'.cell? ⟨(ad265.add ((x20_5).toNat * 5)).block, (ad265.add ((x20_5).toNat * 5)).off + 2, none⟩ = some (.int .u8 ((rd_T36 t254 x20_5).f2)) ∧ w'.cell? ⟨(ad265.add ((x20_5).toNat * 5)).block, (ad265.add ((x20_5).toNat * 5)).off + 3, none⟩ = some (.int .i64 ((rd_T36 t254 x20_5).f3)) ∧ w'.cell? ⟨(ad265.add ((x20_5).toNat * 5)).block, (ad265.add ((x20_5).toNat * 5)).off + 4, none⟩ = some (.int .i64 ((rd_T36 t254 x20_5).f4)) ∧ w'.cell? (ad265.add ((x20_5).toNat * 5)) = some (.int .u32 ((rd_T36 t254 x20_5).f0)) ∧ w'.cell? ⟨(ad265.add ((x20_5).toNat * 5)).block, (ad265.add ((x20_5).toNat * 5)).off + 1, none⟩ = some (.string ((rd_T36 t254 x20_5).f1)) ∧ w'.cell? ⟨(ad265.add ((x20_5).toNat * 5)).block, (ad265.add ((x20_5).toNat * 5)).off + 2, none⟩ = some (.int .u8 ((rd_T36 t254 x20_5).f2)) ∧ w'.cell? ⟨(ad265.add ((x20_5).toNat * 5)).block, (ad265.add ((x20_5).toNat * 5)).off + 3, none⟩ = some (.int .i64 ((rd_T36 t254 x20_5).f3)) ∧ w'.cell? ⟨(ad265.add ((x20_5).toNat * 5)).block, (ad265.add ((x20_5).toNat * 5)).off + 4, none⟩ = some (.int .i64 ((rd_T36 t254 x20_5).f4)) ∧ w'.cell? (ad265.add (((ji78)).toNat * 5)) = some (.int .u32 ((rd_T36 t254 (ji78)).f0)) ∧ w'.cell? ⟨(ad265.add (((ji78)).toNat * 5)).block, (ad265.add (((ji78)).toNat * 5)).off + 1, none⟩ = some (.string ((rd_T36 t254 (ji78)).f1)) ∧ w'.cell? ⟨(ad265.add (((ji78)).toNat * 5)).block, (ad265.add (((ji78)).toNat * 5)).off + 2, none⟩ = some (.int .u8 ((rd_T36 t254 (ji78)).f2)) ∧ w'.cell? ⟨(ad265.add (((ji78)).toNat * 5)).block, (ad265.add (((ji78)).toNat * 5)).off + 3, none⟩ = some (.int .i64 ((rd_T36 t254 (ji78)).f3)) ∧ w'.cell? ⟨(ad265.add (((ji78)).toNat * 5)).block, (ad265.add (((ji78)).toNat * 5)).off + 4, none⟩ = some (.int .i64 ((rd_T36 t254 (ji78)).f4))) (ds := []) (bs_ 41 0) (by kernel_rfl) rfl rfl ⟨hx265_0, hx265_1, hx265_2, hx265_3, hx265_4, hx266_0, hx266_1, hx266_2, hx266_3, hx266_4, hx267_0, hx267_1, hx267_2, hx267_3, hx267_4⟩ (fun hHeld => ?_); refine with_tabW tocsinlaw22_AlertsOthers.tab30 tocsinlaw22_AlertsOthers.bits30 (fun HT_ HW_ => ?_)
                        generalize wr.drew = w89 at HO_13 HO_19 HB hx265_0 hx265_1 hx265_2 hx265_3 hx265_4 hx266_0 hx266_1 hx266_2 hx266_3 hx266_4 hx267_0 hx267_1 hx267_2 hx267_3 hx267_4 hHeld ⊢
                        refine pure_ (i := 0) (N := some 169) (v := ?_) (a' := ?_) (bs_ 41 1) rfl rfl (any_of HT_.out (by kernel_rfl)) (fun _ _ _ h => h) (Or.inl ⟨by rfl, ?_⟩) ?_ ?_
                        rotate_left; (· intro w'; go_simp; with_reducible rfl); rotate_left; (· simp only [Act.put, s3_, s1_, s2_, i64_w, i32_w]; rfl)
                        refine pure_ (i := 1) (N := some 170) (v := ?_) (a' := ?_) (bs_ 41 3) rfl rfl (any_of HT_.out (by kernel_rfl)) (fun _ _ _ h => h) (Or.inl ⟨by rfl, ?_⟩) ?_ ?_
                        rotate_left; (· intro w'; go_simp; with_reducible rfl); rotate_left; (· simp only [Act.put, s3_, s1_, s2_, i64_w, i32_w]; rfl)
                        refine pure_ (i := 2) (N := some 171) (v := ?_) (a' := ?_) (bs_ 41 7) rfl rfl (any_of HT_.out (by kernel_rfl)) (fun _ _ _ h => h) (Or.inl ⟨by rfl, ?_⟩) ?_ ?_
                        rotate_left; (· intro w'; go_simp; with_reducible rfl); rotate_left; (· simp only [Act.put, s3_, s1_, s2_, i64_w, i32_w]; rfl)
                        refine pure_ (i := 3) (N := some 172) (v := ?_) (a' := ?_) (bs_ 41 15) rfl rfl (any_of HT_.out (by kernel_rfl)) (fun _ _ _ h => h) (Or.inl ⟨by rfl, ?_⟩) ?_ ?_
                        rotate_left; (· intro w'; go_simp; with_reducible rfl); rotate_left; (· simp only [Act.put, s3_, s1_, s2_, i64_w, i32_w]; rfl)
                        refine pure_ (i := 5) (N := some 174) (v := ?_) (a' := ?_) (bs_ 41 47) rfl rfl (any_of HT_.out (by kernel_rfl)) (fun _ _ _ h => h) (Or.inl ⟨by rfl, ?_⟩) ?_ ?_
                        rotate_left; (· intro w'; go_simp; with_reducible rfl); rotate_left; (· simp only [Act.put, s3_, s1_, s2_, i64_w, i32_w]; rfl)
                        refine take_ (i := 4) (N := some 173) (v := ?_) (a' := ?_) (bs_ 41 63) rfl rfl (take_ofW HT_.out HW_.out (by kernel_rfl)) (fun _ _ _ h => h) (Or.inl ⟨by rfl, ?_⟩) hHeld ?_ ?_
                        rotate_left; (· rintro w' ⟨s0, s1, s2, s3, s4, s5, s6, s7, s8, s9, s10, s11, s12, s13, s14⟩; go_simp; with_reducible rfl); rotate_left; (· simp only [Act.put, s3_, s1_, s2_, i64_w, i32_w]; rfl)
                        refine pure_ (i := 6) (N := some 175) (v := ?_) (a' := ?_) (bs_ 41 127) rfl rfl (any_of HT_.out (by kernel_rfl)) (fun _ _ _ h => h) (Or.inl ⟨by rfl, ?_⟩) ?_ ?_
                        rotate_left; (· intro w'; go_simp; with_reducible rfl); rotate_left; (· simp only [Act.put, s3_, s1_, s2_, i64_w, i32_w]; rfl)
                        refine pure_ (i := 7) (N := some 176) (v := ?_) (a' := ?_) (bs_ 41 255) rfl rfl (any_of HT_.out (by kernel_rfl)) (fun _ _ _ h => h) (Or.inl ⟨by rfl, ?_⟩) ?_ ?_
                        rotate_left; (· intro w'; go_simp; with_reducible rfl); rotate_left; (· simp only [Act.put, s3_, s1_, s2_, i64_w, i32_w]; rfl)
                        refine pure_ (i := 8) (N := some 177) (v := ?_) (a' := ?_) (bs_ 41 511) rfl rfl (any_of HT_.out (by kernel_rfl)) (fun _ _ _ h => h) (Or.inl ⟨by rfl, ?_⟩) ?_ ?_
                        rotate_left; (· intro w'; go_simp; with_reducible rfl); rotate_left; (· simp only [Act.put, s3_, s1_, s2_, i64_w, i32_w]; rfl)
                        refine pure_ (i := 9) (N := some 178) (v := ?_) (a' := ?_) (bs_ 41 1023) rfl rfl (any_of HT_.out (by kernel_rfl)) (fun _ _ _ h => h) (Or.inl ⟨by rfl, ?_⟩) ?_ ?_
                        rotate_left; (· intro w'; go_simp; with_reducible rfl); rotate_left; (· simp only [Act.put, s3_, s1_, s2_, i64_w, i32_w]; rfl)
                        refine pure_ (i := 10) (N := some 179) (v := ?_) (a' := ?_) (bs_ 41 2047) rfl rfl (any_of HT_.out (by kernel_rfl)) (fun _ _ _ h => h) (Or.inl ⟨by rfl, ?_⟩) ?_ ?_
                        rotate_left; (· intro w'; go_simp; with_reducible rfl); rotate_left; (· simp only [Act.put, s3_, s1_, s2_, i64_w, i32_w]; rfl)
                        refine pure_ (i := 11) (N := some 180) (v := ?_) (a' := ?_) (bs_ 41 4095) rfl rfl (any_of HT_.out (by kernel_rfl)) (fun _ _ _ h => h) (Or.inl ⟨by rfl, ?_⟩) ?_ ?_
                        rotate_left; (· intro w'; go_simp; with_reducible rfl); rotate_left; (· simp only [Act.put, s3_, s1_, s2_, i64_w, i32_w]; rfl)
                        refine pure_ (i := 12) (N := some 181) (v := ?_) (a' := ?_) (bs_ 41 8191) rfl rfl (any_of HT_.out (by kernel_rfl)) (fun _ _ _ h => h) (Or.inl ⟨by rfl, ?_⟩) ?_ ?_
                        rotate_left; (· intro w'; go_simp; with_reducible rfl); rotate_left; (· simp only [Act.put, s3_, s1_, s2_, i64_w, i32_w]; rfl)
                        refine pure_ (i := 13) (N := some 182) (v := ?_) (a' := ?_) (bs_ 41 16383) rfl rfl (any_of HT_.out (by kernel_rfl)) (fun _ _ _ h => h) (Or.inl ⟨by rfl, ?_⟩) ?_ ?_
                        rotate_left; (· intro w'; go_simp; with_reducible rfl); rotate_left; (· simp only [Act.put, s3_, s1_, s2_, i64_w, i32_w]; rfl)
                        refine pure_ (i := 14) (N := some 183) (v := ?_) (a' := ?_) (bs_ 41 32767) rfl rfl (any_of HT_.out (by kernel_rfl)) (fun _ _ _ h => h) (Or.inl ⟨by rfl, ?_⟩) ?_ ?_
                        rotate_left; (· intro w'; go_simp; with_reducible rfl); rotate_left; (· simp only [Act.put, s3_, s1_, s2_, i64_w, i32_w]; rfl)
                        refine pure_ (i := 16) (N := some 185) (v := ?_) (a' := ?_) (bs_ 41 98303) rfl rfl (any_of HT_.out (by kernel_rfl)) (fun _ _ _ h => h) (Or.inl ⟨by rfl, ?_⟩) ?_ ?_
                        rotate_left; (· intro w'; go_simp; with_reducible rfl); rotate_left; (· simp only [Act.put, s3_, s1_, s2_, i64_w, i32_w]; rfl)
                        refine pure_ (i := 17) (N := some 186) (v := ?_) (a' := ?_) (bs_ 41 229375) rfl rfl (any_of HT_.out (by kernel_rfl)) (fun _ _ _ h => h) (Or.inl ⟨by rfl, ?_⟩) ?_ ?_
                        rotate_left; (· intro w'; go_simp; with_reducible rfl); rotate_left; (· simp only [Act.put, s3_, s1_, s2_, i64_w, i32_w]; rfl)
                        refine pure_ (i := 18) (N := some 187) (v := ?_) (a' := ?_) (bs_ 41 491519) rfl rfl (any_of HT_.out (by kernel_rfl)) (fun _ _ _ h => h) (Or.inl ⟨by rfl, ?_⟩) ?_ ?_
                        rotate_left; (· intro w'; go_simp; with_reducible rfl); rotate_left; (· simp only [Act.put, s3_, s1_, s2_, i64_w, i32_w]; rfl)
                        refine pure_ (i := 19) (N := some 188) (v := ?_) (a' := ?_) (bs_ 41 1015807) rfl rfl (any_of HT_.out (by kernel_rfl)) (fun _ _ _ h => h) (Or.inl ⟨by rfl, ?_⟩) ?_ ?_
                        rotate_left; (· intro w'; go_simp; with_reducible rfl); rotate_left; (· simp only [Act.put, s3_, s1_, s2_, i64_w, i32_w]; rfl)
                        refine pure_ (i := 20) (N := some 189) (v := ?_) (a' := ?_) (bs_ 41 2064383) rfl rfl (any_of HT_.out (by kernel_rfl)) (fun _ _ _ h => h) (Or.inl ⟨by rfl, ?_⟩) ?_ ?_
                        rotate_left; (· intro w'; go_simp; with_reducible rfl); rotate_left; (· simp only [Act.put, s3_, s1_, s2_, i64_w, i32_w]; rfl)
                        refine take_ (i := 15) (N := some 184) (v := ?_) (a' := ?_) (bs_ 41 2097151) rfl rfl (take_ofW HT_.out HW_.out (by kernel_rfl)) (fun _ _ _ h => h) (Or.inl ⟨by rfl, ?_⟩) hHeld ?_ ?_
                        rotate_left; (· rintro w' ⟨s0, s1, s2, s3, s4, s5, s6, s7, s8, s9, s10, s11, s12, s13, s14⟩; go_simp; with_reducible rfl); rotate_left; (· simp only [Act.put, s3_, s1_, s2_, i64_w, i32_w]; rfl)
                        refine take_ (i := 21) (N := some 190) (v := ?_) (a' := ?_) (bs_ 41 4194303) rfl rfl (take_ofW HT_.out HW_.out (by kernel_rfl)) (fun _ _ _ h => h) (Or.inl ⟨by rfl, ?_⟩) hHeld ?_ ?_
                        rotate_left; (· rintro w' ⟨s0, s1, s2, s3, s4, s5, s6, s7, s8, s9, s10, s11, s12, s13, s14⟩; go_simp; with_reducible rfl); rotate_left; (· simp only [Act.put, s3_, s1_, s2_, i64_w, i32_w]; rfl)
                        refine pure_ (i := 22) (N := some 191) (v := ?_) (a' := ?_) (bs_ 41 8388607) rfl rfl (any_of HT_.out (by kernel_rfl)) (fun _ _ _ h => h) (Or.inl ⟨by rfl, ?_⟩) ?_ ?_
                        rotate_left; (· intro w'; go_simp; with_reducible rfl); rotate_left; (· simp only [Act.put, s3_, s1_, s2_, i64_w, i32_w]; rfl)
                        refine pure_ (i := 23) (N := some 192) (v := ?_) (a' := ?_) (bs_ 41 16777215) rfl rfl (any_of HT_.out (by kernel_rfl)) (fun _ _ _ h => h) (Or.inl ⟨by rfl, ?_⟩) ?_ ?_
                        rotate_left; (· intro w'; go_simp; with_reducible rfl); rotate_left; (· simp only [Act.put, s3_, s1_, s2_, i64_w, i32_w]; rfl)
                        refine pure_ (i := 24) (N := some 193) (v := ?_) (a' := ?_) (bs_ 41 33554431) rfl rfl (any_of HT_.out (by kernel_rfl)) (fun _ _ _ h => h) (Or.inl ⟨by rfl, ?_⟩) ?_ ?_
                        rotate_left; (· intro w'; go_simp; with_reducible rfl); rotate_left; (· simp only [Act.put, s3_, s1_, s2_, i64_w, i32_w]; rfl)
                        refine pure_ (i := 25) (N := some 194) (v := ?_) (a' := ?_) (bs_ 41 67108863) rfl rfl (any_of HT_.out (by kernel_rfl)) (fun _ _ _ h => h) (Or.inl ⟨by rfl, ?_⟩) ?_ ?_
                        rotate_left; (· intro w'; go_simp; with_reducible rfl); rotate_left; (· simp only [Act.put, s3_, s1_, s2_, i64_w, i32_w]; rfl)
                        refine pure_ (i := 26) (N := some 195) (v := undef) (a' := ?_) (bs_ 41 134217727) rfl rfl (any_of HT_.out (by kernel_rfl)) (fun _ _ _ h => h) (Or.inr ⟨by rfl, rfl⟩) ?_ ?_
                        rotate_left
                        ·simp only [Act.put, s3_, s1_, s2_, i64_w, i32_w]
                         rfl
                        refine pure_ (i := 27) (N := some 196) (v := undef) (a' := ?_) (bs_ 41 268435455) rfl rfl (any_of HT_.out (by kernel_rfl)) (fun _ _ _ h => h) (Or.inr ⟨by rfl, rfl⟩) ?_ ?_
                        rotate_left
                        ·simp only [Act.put, s3_, s1_, s2_, i64_w, i32_w]
                         rfl
                        refine pure_ (i := 28) (N := some 197) (v := undef) (a' := ?_) (bs_ 41 536870911) rfl rfl (any_of HT_.out (by kernel_rfl)) (fun _ _ _ h => h) (Or.inr ⟨by rfl, rfl⟩) ?_ ?_
                        rotate_left
                        ·simp only [Act.put, s3_, s1_, s2_, i64_w, i32_w]
                         rfl
                        refine pure_ (i := 29) (N := some 198) (v := undef) (a' := ?_) (bs_ 41 1073741823) rfl rfl (any_of HT_.out (by kernel_rfl)) (fun _ _ _ h => h) (Or.inr ⟨by rfl, rfl⟩) ?_ ?_
                        rotate_left
                        ·simp only [Act.put, s3_, s1_, s2_, i64_w, i32_w]
                         rfl
                        refine pure_ (i := 30) (N := some 199) (v := undef) (a' := ?_) (bs_ 41 2147483647) rfl rfl (any_of HT_.out (by kernel_rfl)) (fun _ _ _ h => h) (Or.inr ⟨by rfl, rfl⟩) ?_ ?_
                        rotate_left
                        ·simp only [Act.put, s3_, s1_, s2_, i64_w, i32_w]
                         rfl
                        refine pure_ (i := 31) (N := some 200) (v := undef) (a' := ?_) (bs_ 41 4294967295) rfl rfl (any_of HT_.out (by kernel_rfl)) (fun _ _ _ h => h) (Or.inr ⟨by rfl, rfl⟩) ?_ ?_
                        rotate_left
                        ·simp only [Act.put, s3_, s1_, s2_, i64_w, i32_w]
                         rfl
                        refine pure_ (i := 32) (N := some 201) (v := undef) (a' := ?_) (bs_ 41 8589934591) rfl rfl (any_of HT_.out (by kernel_rfl)) (fun _ _ _ h => h) (Or.inr ⟨by rfl, rfl⟩) ?_ ?_
                        rotate_left
                        ·simp only [Act.put, s3_, s1_, s2_, i64_w, i32_w]
                         rfl
                        refine pure_ (i := 33) (N := some 202) (v := undef) (a' := ?_) (bs_ 41 17179869183) rfl rfl (any_of HT_.out (by kernel_rfl)) (fun _ _ _ h => h) (Or.inr ⟨by rfl, rfl⟩) ?_ ?_
                        rotate_left
                        ·simp only [Act.put, s3_, s1_, s2_, i64_w, i32_w]
                         rfl
                        refine pure_ (i := 34) (N := some 203) (v := undef) (a' := ?_) (bs_ 41 34359738367) rfl rfl (any_of HT_.out (by kernel_rfl)) (fun _ _ _ h => h) (Or.inr ⟨by rfl, rfl⟩) ?_ ?_
                        rotate_left
                        ·simp only [Act.put, s3_, s1_, s2_, i64_w, i32_w]
                         rfl
                        refine pure_ (i := 35) (N := some 204) (v := undef) (a' := ?_) (bs_ 41 68719476735) rfl rfl (any_of HT_.out (by kernel_rfl)) (fun _ _ _ h => h) (Or.inr ⟨by rfl, rfl⟩) ?_ ?_
                        rotate_left
                        ·simp only [Act.put, s3_, s1_, s2_, i64_w, i32_w]
                         rfl
                        refine pure_ (i := 36) (N := some 205) (v := undef) (a' := ?_) (bs_ 41 137438953471) rfl rfl (any_of HT_.out (by kernel_rfl)) (fun _ _ _ h => h) (Or.inr ⟨by rfl, rfl⟩) ?_ ?_
                        rotate_left
                        ·simp only [Act.put, s3_, s1_, s2_, i64_w, i32_w]
                         rfl
                        refine pure_ (i := 37) (N := some 206) (v := undef) (a' := ?_) (bs_ 41 274877906943) rfl rfl (any_of HT_.out (by kernel_rfl)) (fun _ _ _ h => h) (Or.inr ⟨by rfl, rfl⟩) ?_ ?_
                        rotate_left
                        ·simp only [Act.put, s3_, s1_, s2_, i64_w, i32_w]
                         rfl
                        refine pure_ (i := 38) (N := some 207) (v := undef) (a' := ?_) (bs_ 41 549755813887) rfl rfl (any_of HT_.out (by kernel_rfl)) (fun _ _ _ h => h) (Or.inr ⟨by rfl, rfl⟩) ?_ ?_
                        rotate_left
                        ·simp only [Act.put, s3_, s1_, s2_, i64_w, i32_w]
                         rfl
                        refine pure_ (i := 39) (N := some 208) (v := undef) (a' := ?_) (bs_ 41 1099511627775) rfl rfl (any_of HT_.out (by kernel_rfl)) (fun _ _ _ h => h) (Or.inr ⟨by rfl, rfl⟩) ?_ ?_
                        rotate_left
                        ·simp only [Act.put, s3_, s1_, s2_, i64_w, i32_w]
                         rfl
                        refine pure_ (i := 40) (N := some 209) (v := ?_) (a' := ?_) (bs_ 41 2199023255551) rfl rfl (any_of HT_.out (by kernel_rfl)) (fun _ _ _ h => h) (Or.inl ⟨by rfl, ?_⟩) ?_ ?_
                        rotate_left; (· intro w'; go_simp; with_reducible rfl); rotate_left; (· simp only [Act.put, s3_, s1_, s2_, i64_w, i32_w]; rfl)
                        refine done_ (done_of HT_.out (by kernel_rfl)) ?_
                        try go_wp2
                        go_ret
                        exact ⟨by first | rfl | (simp [errW_none, errW_some] <;> rfl) | (simp only [Opn.bne_nil, Opn.beq_nil]; done) | (simp [Opn.bne_nil, Opn.beq_nil]; done) | (simp only [← hji78]; first | rfl | (simp [errW_none, errW_some] <;> rfl)) | (simp [*, errW_none, errW_some] <;> rfl), by repeat (first | (with_reducible first | exact HB.out | apply below_alloc | apply pw_below_drewN | apply below_drew1) | exact HB.out)⟩
                     ·rw [if_neg c80] at H
                      exact absurd H (by simp)
                    ·rw [if_neg c79] at H
                     exact absurd H (by simp)
                   ·rw [if_neg c77] at H
                    have c77b0 : decide (0 < x20_5) = false := decide_eq_false c77
                    clear c77
                    replace H := Option.bind_eq_some_iff.mp H
                    obtain ⟨t273, A900, H⟩ := H
                    replace H : (if ((((rd_T36 t254 x20_5).f2) != 0) != t273) = true then (some false) else (tocsinlaw22_AlertsOthers.l3 k5 l0 a1 a2 a3 a4 l5 x13_2 t254 (wrap64 (x20_5 + 1)))) = some r := H
                    have A90 := Aside0.mk A900
                    clear A900
                    by_cases c91 : ((((rd_T36 t254 x20_5).f2) != 0) != t273) = true
                    ·rw [if_pos c91] at H
                     have c91b0 : ((((rd_T36 t254 x20_5).f2) != 0) != t273) = true := c91
                     (try (have c91b1 : decide ((((rd_T36 t254 x20_5).f2) != 0) = t273) = false := by simpa using c91))
                     (try (have c91b2 : ((((rd_T36 t254 x20_5).f2) != 0) == t273) = false := by simpa using c91))
                     (try (have c91b3 : ¬ ((((rd_T36 t254 x20_5).f2) != 0) = t273) := by simpa using c91))
                     clear c91
                     obtain rfl := Option.some.inj H
                     obtain ⟨Ao92, co92, eo92⟩ := Kd.R_slice HO_19.out
                     subst eo92
                     try go_wp2
                     have n0_ := Aside0.mk (Kd.R_drew HO_13.out)
                     have n1_ := Aside0.mk (Kd.R_drew HO_19.out)
                     have n2_ := Aside0.mk (below_drew1 HB.out)
                     clear HO_13; clear HO_19; clear HB; have HO_13 := n0_; have HO_19 := n1_; have HB := n2_
                     clear n0_ n1_ n2_
                     have p265 : 0 ≤ (x20_5 : Int) := of_decide_eq_true (by first | (with_reducible assumption) | assumption)
                     have q265 : x20_5 < (t254.length : Int) := of_decide_eq_true (by first | (with_reducible assumption) | assumption)
                     obtain ⟨ad265, e265, hx265_0, hx265_1, hx265_2, hx265_3, hx265_4⟩ := at_T36 (Kd.R_reads' HO_19.out).2.2 x20_5 p265 q265
                     cases e265
                     replace p265 := eq_true p265; replace q265 := eq_true q265
                     have p271 : 0 ≤ (x20_5 : Int) := of_decide_eq_true (by first | (with_reducible assumption) | assumption)
                     have q271 : x20_5 < (t254.length : Int) := of_decide_eq_true (by first | (with_reducible assumption) | assumption)
                     obtain ⟨ad271, e271, hx271_0, hx271_1, hx271_2, hx271_3, hx271_4⟩ := at_T36 (Kd.R_reads' HO_19.out).2.2 x20_5 p271 q271
                     obtain rfl : ad265 = ad271 := (by injection e271)
                     replace p271 := eq_true p271; replace q271 := eq_true q271
                     have p272 : 0 ≤ (x20_5 : Int) := of_decide_eq_true (by first | (with_reducible assumption) | assumption)
                     have q272 : x20_5 < (t254.length : Int) := of_decide_eq_true (by first | (with_reducible assumption) | assumption)
                     obtain ⟨ad272, e272, hx272_0, hx272_1, hx272_2, hx272_3, hx272_4⟩ := at_T36 (Kd.R_reads' HO_19.out).2.2 x20_5 p272 q272
                     obtain rfl : ad265 = ad272 := (by injection e272)
                     replace p272 := eq_true p272; replace q272 := eq_true q272
                     as_aux_lemma =>
                      refine start_ (n := 41) (S := fun w' => w'.cell? (ad265.add ((x20_5).toNat * 5)) = some (.int .u32 ((rd_T36 t254 x20_5).f0)) ∧ w'.cell? ⟨(ad265.add ((x20_5).toNat * 5)).block, (ad265.add ((x20_5).toNat * 5)).off + 1, none⟩ = some (.string ((rd_T36 t254 x20_5).f1)) ∧ w'.cell? ⟨(ad265.add ((x20_5).toNat * 5)).block, (ad265.add ((x20_5).toNat * 5)).off + 2, none⟩ = some (.int .u8 ((rd_T36 t254 x20_5).f2)) ∧ w'.cell? ⟨(ad265.add ((x20_5).toNat * 5)).block, (ad265.add ((x20_5).toNat * 5)).off + 3, none⟩ = some (.int .i64 ((rd_T36 t254 x20_5).f3)) ∧ w'.cell? ⟨(ad265.add ((x20_5).toNat * 5)).block, (ad265.add ((x20_5).toNat * 5)).off + 4, none⟩ = some (.int .i64 ((rd_T36 t254 x20_5).f4)) ∧ w'.cell? (ad265.add ((x20_5).toNat * 5)) = some (.int .u32 ((rd_T36 t254 x20_5).f0)) ∧ w'.cell? ⟨(ad265.add ((x20_5).toNat * 5)).block, (ad265.add ((x20_5).toNat * 5)).off + 1, none⟩ = some (.string ((rd_T36 t254 x20_5).f1)) ∧ w'.cell? ⟨(ad265.add ((x20_5).toNat * 5)).block, (ad265.add ((x20_5).toNat * 5)).off + 2, none⟩ = some (.int .u8 ((rd_T36 t254 x20_5).f2)) ∧ w'.cell? ⟨(ad265.add ((x20_5).toNat * 5)).block, (ad265.add ((x20_5).toNat * 5)).off + 3, none⟩ = some (.int .i64 ((rd_T36 t254 x20_5).f3)) ∧ w'.cell? ⟨(ad265.add ((x20_5).toNat * 5)).block, (ad265.add ((x20_5).toNat * 5)).off + 4, none⟩ = some (.int .i64 ((rd_T36 t254 x20_5).f4)) ∧ w'.cell? (ad265.add ((x20_5).toNat * 5)) = some (.int .u32 ((rd_T36 t254 x20_5).f0)) ∧ w'.cell? ⟨(ad265.add ((x20_5).toNat * 5)).block, (ad265.add ((x20_5).toNat * 5)).off + 1, none⟩ = some (.string ((rd_T36 t254 x20_5).f1)) ∧ w'.cell? ⟨(ad265.add ((x20_5).toNat * 5)).block, (ad265.add ((x20_5).toNat * 5)).off + 2, none⟩ = some (.int .u8 ((rd_T36 t254 x20_5).f2)) ∧ w'.cell? ⟨(ad265.add ((x20_5).toNat * 5)).block, (ad265.add ((x20_5).toNat * 5)).off + 3, none⟩ = some (.int .i64 ((rd_T36 t254 x20_5).f3)) ∧ w'.cell? ⟨(ad265.add ((x20_5).toNat * 5)).block, (ad265.add ((x20_5).toNat * 5)).off + 4, none⟩ = some (.int .i64 ((rd_T36 t254 x20_5).f4))) (ds := []) (bs_ 41 0) (by kernel_rfl) rfl rfl ⟨hx265_0, hx265_1, hx265_2, hx265_3, hx265_4, hx271_0, hx271_1, hx271_2, hx271_3, hx271_4, hx272_0, hx272_1, hx272_2, hx272_3, hx272_4⟩ (fun hHeld => ?_); refine with_tabW tocsinlaw22_AlertsOthers.tab30 tocsinlaw22_AlertsOthers.bits30 (fun HT_ HW_ => ?_)
                      generalize wr.drew = w93 at HO_13 HO_19 HB hx265_0 hx265_1 hx265_2 hx265_3 hx265_4 hx271_0 hx271_1 hx271_2 hx271_3 hx271_4 hx272_0 hx272_1 hx272_2 hx272_3 hx272_4 hHeld ⊢
                      refine pure_ (i := 0) (N := some 169) (v := ?_) (a' := ?_) (bs_ 41 1) rfl rfl (any_of HT_.out (by kernel_rfl)) (fun _ _ _ h => h) (Or.inl ⟨by rfl, ?_⟩) ?_ ?_
                      rotate_left; (· intro w'; go_simp; with_reducible rfl); rotate_left; (· simp only [Act.put, s3_, s1_, s2_, i64_w, i32_w]; rfl)
                      refine pure_ (i := 1) (N := some 170) (v := ?_) (a' := ?_) (bs_ 41 3) rfl rfl (any_of HT_.out (by kernel_rfl)) (fun _ _ _ h => h) (Or.inl ⟨by rfl, ?_⟩) ?_ ?_
                      rotate_left; (· intro w'; go_simp; with_reducible rfl); rotate_left; (· simp only [Act.put, s3_, s1_, s2_, i64_w, i32_w]; rfl)
                      refine pure_ (i := 2) (N := some 171) (v := ?_) (a' := ?_) (bs_ 41 7) rfl rfl (any_of HT_.out (by kernel_rfl)) (fun _ _ _ h => h) (Or.inl ⟨by rfl, ?_⟩) ?_ ?_
                      rotate_left; (· intro w'; go_simp; with_reducible rfl); rotate_left; (· simp only [Act.put, s3_, s1_, s2_, i64_w, i32_w]; rfl)
                      refine pure_ (i := 3) (N := some 172) (v := ?_) (a' := ?_) (bs_ 41 15) rfl rfl (any_of HT_.out (by kernel_rfl)) (fun _ _ _ h => h) (Or.inl ⟨by rfl, ?_⟩) ?_ ?_
                      rotate_left; (· intro w'; go_simp; with_reducible rfl); rotate_left; (· simp only [Act.put, s3_, s1_, s2_, i64_w, i32_w]; rfl)
                      refine pure_ (i := 5) (N := some 174) (v := ?_) (a' := ?_) (bs_ 41 47) rfl rfl (any_of HT_.out (by kernel_rfl)) (fun _ _ _ h => h) (Or.inl ⟨by rfl, ?_⟩) ?_ ?_
                      rotate_left; (· intro w'; go_simp; with_reducible rfl); rotate_left; (· simp only [Act.put, s3_, s1_, s2_, i64_w, i32_w]; rfl)
                      refine take_ (i := 4) (N := some 173) (v := ?_) (a' := ?_) (bs_ 41 63) rfl rfl (take_ofW HT_.out HW_.out (by kernel_rfl)) (fun _ _ _ h => h) (Or.inl ⟨by rfl, ?_⟩) hHeld ?_ ?_
                      rotate_left; (· rintro w' ⟨s0, s1, s2, s3, s4, s5, s6, s7, s8, s9, s10, s11, s12, s13, s14⟩; go_simp; with_reducible rfl); rotate_left; (· simp only [Act.put, s3_, s1_, s2_, i64_w, i32_w]; rfl)
                      refine pure_ (i := 6) (N := some 175) (v := ?_) (a' := ?_) (bs_ 41 127) rfl rfl (any_of HT_.out (by kernel_rfl)) (fun _ _ _ h => h) (Or.inl ⟨by rfl, ?_⟩) ?_ ?_
                      rotate_left; (· intro w'; go_simp; with_reducible rfl); rotate_left; (· simp only [Act.put, s3_, s1_, s2_, i64_w, i32_w]; rfl)
                      refine pure_ (i := 7) (N := some 176) (v := ?_) (a' := ?_) (bs_ 41 255) rfl rfl (any_of HT_.out (by kernel_rfl)) (fun _ _ _ h => h) (Or.inl ⟨by rfl, ?_⟩) ?_ ?_
                      rotate_left; (· intro w'; go_simp; with_reducible rfl); rotate_left; (· simp only [Act.put, s3_, s1_, s2_, i64_w, i32_w]; rfl)
                      refine pure_ (i := 8) (N := some 177) (v := ?_) (a' := ?_) (bs_ 41 511) rfl rfl (any_of HT_.out (by kernel_rfl)) (fun _ _ _ h => h) (Or.inl ⟨by rfl, ?_⟩) ?_ ?_
                      rotate_left; (· intro w'; go_simp; with_reducible rfl); rotate_left; (· simp only [Act.put, s3_, s1_, s2_, i64_w, i32_w]; rfl)
                      refine pure_ (i := 9) (N := some 178) (v := ?_) (a' := ?_) (bs_ 41 1023) rfl rfl (any_of HT_.out (by kernel_rfl)) (fun _ _ _ h => h) (Or.inl ⟨by rfl, ?_⟩) ?_ ?_
                      rotate_left; (· intro w'; go_simp; with_reducible rfl); rotate_left; (· simp only [Act.put, s3_, s1_, s2_, i64_w, i32_w]; rfl)
                      refine pure_ (i := 10) (N := some 179) (v := ?_) (a' := ?_) (bs_ 41 2047) rfl rfl (any_of HT_.out (by kernel_rfl)) (fun _ _ _ h => h) (Or.inl ⟨by rfl, ?_⟩) ?_ ?_
                      rotate_left; (· intro w'; go_simp; with_reducible rfl); rotate_left; (· simp only [Act.put, s3_, s1_, s2_, i64_w, i32_w]; rfl)
                      refine pure_ (i := 11) (N := some 180) (v := undef) (a' := ?_) (bs_ 41 4095) rfl rfl (any_of HT_.out (by kernel_rfl)) (fun _ _ _ h => h) (Or.inr ⟨by rfl, rfl⟩) ?_ ?_
                      rotate_left
                      ·simp only [Act.put, s3_, s1_, s2_, i64_w, i32_w]
                       rfl
                      refine pure_ (i := 12) (N := some 181) (v := undef) (a' := ?_) (bs_ 41 8191) rfl rfl (any_of HT_.out (by kernel_rfl)) (fun _ _ _ h => h) (Or.inr ⟨by rfl, rfl⟩) ?_ ?_
                      rotate_left
                      ·simp only [Act.put, s3_, s1_, s2_, i64_w, i32_w]
                       rfl
                      refine pure_ (i := 13) (N := some 182) (v := undef) (a' := ?_) (bs_ 41 16383) rfl rfl (any_of HT_.out (by kernel_rfl)) (fun _ _ _ h => h) (Or.inr ⟨by rfl, rfl⟩) ?_ ?_
                      rotate_left
                      ·simp only [Act.put, s3_, s1_, s2_, i64_w, i32_w]
                       rfl
                      refine pure_ (i := 14) (N := some 183) (v := undef) (a' := ?_) (bs_ 41 32767) rfl rfl (any_of HT_.out (by kernel_rfl)) (fun _ _ _ h => h) (Or.inr ⟨by rfl, rfl⟩) ?_ ?_
                      rotate_left
                      ·simp only [Act.put, s3_, s1_, s2_, i64_w, i32_w]
                       rfl
                      refine pure_ (i := 15) (N := some 184) (v := undef) (a' := ?_) (bs_ 41 65535) rfl rfl (any_of HT_.out (by kernel_rfl)) (fun _ _ _ h => h) (Or.inr ⟨by rfl, rfl⟩) ?_ ?_
                      rotate_left
                      ·simp only [Act.put, s3_, s1_, s2_, i64_w, i32_w]
                       rfl
                      refine pure_ (i := 16) (N := some 185) (v := undef) (a' := ?_) (bs_ 41 131071) rfl rfl (any_of HT_.out (by kernel_rfl)) (fun _ _ _ h => h) (Or.inr ⟨by rfl, rfl⟩) ?_ ?_
                      rotate_left
                      ·simp only [Act.put, s3_, s1_, s2_, i64_w, i32_w]
                       rfl
                      refine pure_ (i := 17) (N := some 186) (v := undef) (a' := ?_) (bs_ 41 262143) rfl rfl (any_of HT_.out (by kernel_rfl)) (fun _ _ _ h => h) (Or.inr ⟨by rfl, rfl⟩) ?_ ?_
                      rotate_left
                      ·simp only [Act.put, s3_, s1_, s2_, i64_w, i32_w]
                       rfl
                      refine pure_ (i := 18) (N := some 187) (v := undef) (a' := ?_) (bs_ 41 524287) rfl rfl (any_of HT_.out (by kernel_rfl)) (fun _ _ _ h => h) (Or.inr ⟨by rfl, rfl⟩) ?_ ?_
                      rotate_left
                      ·simp only [Act.put, s3_, s1_, s2_, i64_w, i32_w]
                       rfl
                      refine pure_ (i := 19) (N := some 188) (v := undef) (a' := ?_) (bs_ 41 1048575) rfl rfl (any_of HT_.out (by kernel_rfl)) (fun _ _ _ h => h) (Or.inr ⟨by rfl, rfl⟩) ?_ ?_
                      rotate_left
                      ·simp only [Act.put, s3_, s1_, s2_, i64_w, i32_w]
                       rfl
                      refine pure_ (i := 20) (N := some 189) (v := undef) (a' := ?_) (bs_ 41 2097151) rfl rfl (any_of HT_.out (by kernel_rfl)) (fun _ _ _ h => h) (Or.inr ⟨by rfl, rfl⟩) ?_ ?_
                      rotate_left
                      ·simp only [Act.put, s3_, s1_, s2_, i64_w, i32_w]
                       rfl
                      refine pure_ (i := 21) (N := some 190) (v := undef) (a' := ?_) (bs_ 41 4194303) rfl rfl (any_of HT_.out (by kernel_rfl)) (fun _ _ _ h => h) (Or.inr ⟨by rfl, rfl⟩) ?_ ?_
                      rotate_left
                      ·simp only [Act.put, s3_, s1_, s2_, i64_w, i32_w]
                       rfl
                      refine pure_ (i := 22) (N := some 191) (v := undef) (a' := ?_) (bs_ 41 8388607) rfl rfl (any_of HT_.out (by kernel_rfl)) (fun _ _ _ h => h) (Or.inr ⟨by rfl, rfl⟩) ?_ ?_
                      rotate_left
                      ·simp only [Act.put, s3_, s1_, s2_, i64_w, i32_w]
                       rfl
                      refine pure_ (i := 23) (N := some 192) (v := ?_) (a' := ?_) (bs_ 41 16777215) rfl rfl (any_of HT_.out (by kernel_rfl)) (fun _ _ _ h => h) (Or.inl ⟨by rfl, ?_⟩) ?_ ?_
                      rotate_left; (· intro w'; go_simp; with_reducible rfl); rotate_left; (· simp only [Act.put, s3_, s1_, s2_, i64_w, i32_w]; rfl)
                      refine pure_ (i := 24) (N := some 193) (v := ?_) (a' := ?_) (bs_ 41 33554431) rfl rfl (any_of HT_.out (by kernel_rfl)) (fun _ _ _ h => h) (Or.inl ⟨by rfl, ?_⟩) ?_ ?_
                      rotate_left; (· intro w'; go_simp; with_reducible rfl); rotate_left; (· simp only [Act.put, s3_, s1_, s2_, i64_w, i32_w]; rfl)
                      refine pure_ (i := 25) (N := some 194) (v := ?_) (a' := ?_) (bs_ 41 67108863) rfl rfl (any_of HT_.out (by kernel_rfl)) (fun _ _ _ h => h) (Or.inl ⟨by rfl, ?_⟩) ?_ ?_
                      rotate_left; (· intro w'; go_simp; with_reducible rfl); rotate_left; (· simp only [Act.put, s3_, s1_, s2_, i64_w, i32_w]; rfl)
                      refine pure_ (i := 26) (N := some 195) (v := ?_) (a' := ?_) (bs_ 41 134217727) rfl rfl (any_of HT_.out (by kernel_rfl)) (fun _ _ _ h => h) (Or.inl ⟨by rfl, ?_⟩) ?_ ?_
                      rotate_left; (· intro w'; go_simp; with_reducible rfl); rotate_left; (· simp only [Act.put, s3_, s1_, s2_, i64_w, i32_w]; rfl)
                      refine pure_ (i := 27) (N := some 196) (v := ?_) (a' := ?_) (bs_ 41 268435455) rfl rfl (any_of HT_.out (by kernel_rfl)) (fun _ _ _ h => h) (Or.inl ⟨by rfl, ?_⟩) ?_ ?_
                      rotate_left; (· intro w'; go_simp; with_reducible rfl); rotate_left; (· simp only [Act.put, s3_, s1_, s2_, i64_w, i32_w]; rfl)
                      refine pure_ (i := 28) (N := some 197) (v := ?_) (a' := ?_) (bs_ 41 536870911) rfl rfl (any_of HT_.out (by kernel_rfl)) (fun _ _ _ h => h) (Or.inl ⟨by rfl, ?_⟩) ?_ ?_
                      rotate_left; (· intro w'; go_simp; with_reducible rfl); rotate_left; (· simp only [Act.put, s3_, s1_, s2_, i64_w, i32_w]; rfl)
                      refine pure_ (i := 29) (N := some 198) (v := ?_) (a' := ?_) (bs_ 41 1073741823) rfl rfl (any_of HT_.out (by kernel_rfl)) (fun _ _ _ h => h) (Or.inl ⟨by rfl, ?_⟩) ?_ ?_
                      rotate_left; (· intro w'; go_simp; with_reducible rfl); rotate_left; (· simp only [Act.put, s3_, s1_, s2_, i64_w, i32_w]; rfl)
                      refine pure_ (i := 32) (N := some 201) (v := ?_) (a' := ?_) (bs_ 41 5368709119) rfl rfl (any_of HT_.out (by kernel_rfl)) (fun _ _ _ h => h) (Or.inl ⟨by rfl, ?_⟩) ?_ ?_
                      rotate_left; (· intro w'; go_simp; with_reducible rfl); rotate_left; (· simp only [Act.put, s3_, s1_, s2_, i64_w, i32_w]; rfl)
                      refine pure_ (i := 33) (N := some 202) (v := ?_) (a' := ?_) (bs_ 41 13958643711) rfl rfl (any_of HT_.out (by kernel_rfl)) (fun _ _ _ h => h) (Or.inl ⟨by rfl, ?_⟩) ?_ ?_
                      rotate_left; (· intro w'; go_simp; with_reducible rfl); rotate_left; (· simp only [Act.put, s3_, s1_, s2_, i64_w, i32_w]; rfl)
                      refine pure_ (i := 34) (N := some 203) (v := ?_) (a' := ?_) (bs_ 41 31138512895) rfl rfl (any_of HT_.out (by kernel_rfl)) (fun _ _ _ h => h) (Or.inl ⟨by rfl, ?_⟩) ?_ ?_
                      rotate_left; (· intro w'; go_simp; with_reducible rfl); rotate_left; (· simp only [Act.put, s3_, s1_, s2_, i64_w, i32_w]; rfl)
                      refine pure_ (i := 35) (N := some 204) (v := ?_) (a' := ?_) (bs_ 41 65498251263) rfl rfl (any_of HT_.out (by kernel_rfl)) (fun _ _ _ h => h) (Or.inl ⟨by rfl, ?_⟩) ?_ ?_
                      rotate_left; (· intro w'; go_simp; with_reducible rfl); rotate_left; (· simp only [Act.put, s3_, s1_, s2_, i64_w, i32_w]; rfl)
                      refine pure_ (i := 36) (N := some 205) (v := ?_) (a' := ?_) (bs_ 41 134217727999) rfl rfl (any_of HT_.out (by kernel_rfl)) (fun _ _ _ h => h) (Or.inl ⟨by rfl, ?_⟩) ?_ ?_
                      rotate_left; (· intro w'; go_simp; with_reducible rfl); rotate_left; (· simp only [Act.put, s3_, s1_, s2_, i64_w, i32_w]; rfl)
                      refine take_ (i := 30) (N := some 199) (v := ?_) (a' := ?_) (bs_ 41 135291469823) rfl rfl (take_ofW HT_.out HW_.out (by kernel_rfl)) (fun _ _ _ h => h) (Or.inl ⟨by rfl, ?_⟩) hHeld ?_ ?_
                      rotate_left; (· rintro w' ⟨s0, s1, s2, s3, s4, s5, s6, s7, s8, s9, s10, s11, s12, s13, s14⟩; go_simp; with_reducible rfl); rotate_left; (· simp only [Act.put, s3_, s1_, s2_, i64_w, i32_w]; rfl)
                      refine pure_ (i := 31) (N := some 200) (v := ?_) (a' := ?_) (bs_ 41 137438953471) rfl rfl (any_of HT_.out (by kernel_rfl)) (fun _ _ _ h => h) (Or.inl ⟨by rfl, ?_⟩) ?_ ?_
                      rotate_left; (· intro w'; go_simp; with_reducible rfl); rotate_left; (· simp only [Act.put, s3_, s1_, s2_, i64_w, i32_w]; rfl)
                      refine take_ (i := 37) (N := some 206) (v := ?_) (a' := ?_) (bs_ 41 274877906943) rfl rfl (take_ofW HT_.out HW_.out (by kernel_rfl)) (fun _ _ _ h => h) (Or.inl ⟨by rfl, ?_⟩) hHeld ?_ ?_
                      rotate_left; (· rintro w' ⟨s0, s1, s2, s3, s4, s5, s6, s7, s8, s9, s10, s11, s12, s13, s14⟩; go_simp; with_reducible rfl); rotate_left; (· simp only [Act.put, s3_, s1_, s2_, i64_w, i32_w]; rfl)
                      refine one_ (i := 38) (N := some 207) (bs_ 41 549755813887) rfl rfl (one_of HT_.out (by kernel_rfl)) (by decide) (fun K hK => ?_)
                      refine goes_ Try.func12 (by kernel_rfl) rfl #[.slice A5 l5.length c5, .string ((rd_T36 t254 x20_5).f1)] (by rfl) rfl rfl (by (try simp only [List.map_toArray, List.map_cons, List.map_nil]); first | done | rfl | (simp only [List.length_drop, List.length_take]; rfl)) ?_
                      with_reducible refine (tocsinref22_Has.calls k5 _ _ l5 ((rd_T36 t254 x20_5).f1) t273 _ ?side1 ?side2 A90.out).mono ?_
                      (case side1 => repeat (first | exact (Kd.C_below HR5.out HB.out) | (with_reducible refine Kd.C_alloc ?_ _) | (with_reducible refine Kd.C_drewN ?_ _) | (with_reducible refine Kd.C_drew ?_)))
                      (case side2 => exact HC5.out)
                      rintro e w' ⟨rfl, ⟨nd, rfl⟩⟩
                      refine ⟨_, rfl, ?_⟩
                      refine hK.out _ _ ⟨hHeld.1, hHeld.2.1, hHeld.2.2.1, hHeld.2.2.2.1, hHeld.2.2.2.2.1, hHeld.2.2.2.2.2.1, hHeld.2.2.2.2.2.2.1, hHeld.2.2.2.2.2.2.2.1, hHeld.2.2.2.2.2.2.2.2.1, hHeld.2.2.2.2.2.2.2.2.2.1, hHeld.2.2.2.2.2.2.2.2.2.2.1, hHeld.2.2.2.2.2.2.2.2.2.2.2.1, hHeld.2.2.2.2.2.2.2.2.2.2.2.2.1, hHeld.2.2.2.2.2.2.2.2.2.2.2.2.2.1, hHeld.2.2.2.2.2.2.2.2.2.2.2.2.2.2⟩ (fun hHeld => ?_)
                      clear hK K
                      refine norm_ (a' := ?_) ?_ ?_
                      rotate_left
                      ·show Act.put _ (some 207) _ = _
                       simp only [Act.put, s3_, s1_, s2_, i64_w, i32_w]
                       rfl
                      refine pure_ (i := 39) (N := some 208) (v := ?_) (a' := ?_) (bs_ 41 1099511627775) rfl rfl (any_of HT_.out (by kernel_rfl)) (fun _ _ _ h => h) (Or.inl ⟨by rfl, ?_⟩) ?_ ?_
                      rotate_left; (· intro w'; go_simp; with_reducible rfl); rotate_left; (· simp only [Act.put, s3_, s1_, s2_, i64_w, i32_w]; rfl)
                      refine pure_ (i := 40) (N := some 209) (v := ?_) (a' := ?_) (bs_ 41 2199023255551) rfl rfl (any_of HT_.out (by kernel_rfl)) (fun _ _ _ h => h) (Or.inl ⟨by rfl, ?_⟩) ?_ ?_
                      rotate_left; (· intro w'; go_simp; with_reducible rfl); rotate_left; (· simp only [Act.put, s3_, s1_, s2_, i64_w, i32_w]; rfl)
                      refine done_ (done_of HT_.out (by kernel_rfl)) ?_
                      try go_wp2
                      go_ret
                      exact ⟨by first | rfl | (simp [errW_none, errW_some] <;> rfl) | (simp only [Opn.bne_nil, Opn.beq_nil]; done) | (simp [Opn.bne_nil, Opn.beq_nil]; done) | (simp [*, errW_none, errW_some] <;> rfl), by repeat (first | (with_reducible first | exact HB.out | apply below_alloc | apply pw_below_drewN | apply below_drew1) | exact HB.out)⟩
                    ·rw [if_neg c91] at H
                     have c91b0 : ((((rd_T36 t254 x20_5).f2) != 0) != t273) = false := by simpa using c91
                     (try (have c91b1 : decide ((((rd_T36 t254 x20_5).f2) != 0) = t273) = true := by simpa using c91))
                     (try (have c91b2 : ((((rd_T36 t254 x20_5).f2) != 0) == t273) = true := by simpa using c91))
                     clear c91
                     have H' := Aside0.mk H
                     clear H
                     obtain ⟨Ao94, co94, eo94⟩ := Kd.R_slice HO_19.out
                     subst eo94
                     try go_wp2
                     have n0_ := Aside0.mk (Kd.R_drew HO_13.out)
                     have n1_ := Aside0.mk (Kd.R_drew HO_19.out)
                     have n2_ := Aside0.mk (below_drew1 HB.out)
                     clear HO_13; clear HO_19; clear HB; have HO_13 := n0_; have HO_19 := n1_; have HB := n2_
                     clear n0_ n1_ n2_
                     have p265 : 0 ≤ (x20_5 : Int) := of_decide_eq_true (by first | (with_reducible assumption) | assumption)
                     have q265 : x20_5 < (t254.length : Int) := of_decide_eq_true (by first | (with_reducible assumption) | assumption)
                     obtain ⟨ad265, e265, hx265_0, hx265_1, hx265_2, hx265_3, hx265_4⟩ := at_T36 (Kd.R_reads' HO_19.out).2.2 x20_5 p265 q265
                     cases e265
                     replace p265 := eq_true p265; replace q265 := eq_true q265
                     have p271 : 0 ≤ (x20_5 : Int) := of_decide_eq_true (by first | (with_reducible assumption) | assumption)
                     have q271 : x20_5 < (t254.length : Int) := of_decide_eq_true (by first | (with_reducible assumption) | assumption)
                     obtain ⟨ad271, e271, hx271_0, hx271_1, hx271_2, hx271_3, hx271_4⟩ := at_T36 (Kd.R_reads' HO_19.out).2.2 x20_5 p271 q271
                     obtain rfl : ad265 = ad271 := (by injection e271)
                     replace p271 := eq_true p271; replace q271 := eq_true q271
                     have p272 : 0 ≤ (x20_5 : Int) := of_decide_eq_true (by first | (with_reducible assumption) | assumption)
                     have q272 : x20_5 < (t254.length : Int) := of_decide_eq_true (by first | (with_reducible assumption) | assumption)
                     obtain ⟨ad272, e272, hx272_0, hx272_1, hx272_2, hx272_3, hx272_4⟩ := at_T36 (Kd.R_reads' HO_19.out).2.2 x20_5 p272 q272
                     obtain rfl : ad265 = ad272 := (by injection e272)
                     replace p272 := eq_true p272; replace q272 := eq_true q272
                     as_aux_lemma =>
                      refine start_ (n := 41) (S := fun w' => w'.cell? (ad265.add ((x20_5).toNat * 5)) = some (.int .u32 ((rd_T36 t254 x20_5).f0)) ∧ w'.cell? ⟨(ad265.add ((x20_5).toNat * 5)).block, (ad265.add ((x20_5).toNat * 5)).off + 1, none⟩ = some (.string ((rd_T36 t254 x20_5).f1)) ∧ w'.cell? ⟨(ad265.add ((x20_5).toNat * 5)).block, (ad265.add ((x20_5).toNat * 5)).off + 2, none⟩ = some (.int .u8 ((rd_T36 t254 x20_5).f2)) ∧ w'.cell? ⟨(ad265.add ((x20_5).toNat * 5)).block, (ad265.add ((x20_5).toNat * 5)).off + 3, none⟩ = some (.int .i64 ((rd_T36 t254 x20_5).f3)) ∧ w'.cell? ⟨(ad265.add ((x20_5).toNat * 5)).block, (ad265.add ((x20_5).toNat * 5)).off + 4, none⟩ = some (.int .i64 ((rd_T36 t254 x20_5).f4)) ∧ w'.cell? (ad265.add ((x20_5).toNat * 5)) = some (.int .u32 ((rd_T36 t254 x20_5).f0)) ∧ w'.cell? ⟨(ad265.add ((x20_5).toNat * 5)).block, (ad265.add ((x20_5).toNat * 5)).off + 1, none⟩ = some (.string ((rd_T36 t254 x20_5).f1)) ∧ w'.cell? ⟨(ad265.add ((x20_5).toNat * 5)).block, (ad265.add ((x20_5).toNat * 5)).off + 2, none⟩ = some (.int .u8 ((rd_T36 t254 x20_5).f2)) ∧ w'.cell? ⟨(ad265.add ((x20_5).toNat * 5)).block, (ad265.add ((x20_5).toNat * 5)).off + 3, none⟩ = some (.int .i64 ((rd_T36 t254 x20_5).f3)) ∧ w'.cell? ⟨(ad265.add ((x20_5).toNat * 5)).block, (ad265.add ((x20_5).toNat * 5)).off + 4, none⟩ = some (.int .i64 ((rd_T36 t254 x20_5).f4)) ∧ w'.cell? (ad265.add ((x20_5).toNat * 5)) = some (.int .u32 ((rd_T36 t254 x20_5).f0)) ∧ w'.cell? ⟨(ad265.add ((x20_5).toNat * 5)).block, (ad265.add ((x20_5).toNat * 5)).off + 1, none⟩ = some (.string ((rd_T36 t254 x20_5).f1)) ∧ w'.cell? ⟨(ad265.add ((x20_5).toNat * 5)).block, (ad265.add ((x20_5).toNat * 5)).off + 2, none⟩ = some (.int .u8 ((rd_T36 t254 x20_5).f2)) ∧ w'.cell? ⟨(ad265.add ((x20_5).toNat * 5)).block, (ad265.add ((x20_5).toNat * 5)).off + 3, none⟩ = some (.int .i64 ((rd_T36 t254 x20_5).f3)) ∧ w'.cell? ⟨(ad265.add ((x20_5).toNat * 5)).block, (ad265.add ((x20_5).toNat * 5)).off + 4, none⟩ = some (.int .i64 ((rd_T36 t254 x20_5).f4))) (ds := []) (bs_ 41 0) (by kernel_rfl) rfl rfl ⟨hx265_0, hx265_1, hx265_2, hx265_3, hx265_4, hx271_0, hx271_1, hx271_2, hx271_3, hx271_4, hx272_0, hx272_1, hx272_2, hx272_3, hx272_4⟩ (fun hHeld => ?_); refine with_tabW tocsinlaw22_AlertsOthers.tab30 tocsinlaw22_AlertsOthers.bits30 (fun HT_ HW_ => ?_)
                      generalize wr.drew = w95 at HO_13 HO_19 HB hx265_0 hx265_1 hx265_2 hx265_3 hx265_4 hx271_0 hx271_1 hx271_2 hx271_3 hx271_4 hx272_0 hx272_1 hx272_2 hx272_3 hx272_4 hHeld ⊢
                      refine pure_ (i := 0) (N := some 169) (v := ?_) (a' := ?_) (bs_ 41 1) rfl rfl (any_of HT_.out (by kernel_rfl)) (fun _ _ _ h => h) (Or.inl ⟨by rfl, ?_⟩) ?_ ?_
                      rotate_left; (· intro w'; go_simp; with_reducible rfl); rotate_left; (· simp only [Act.put, s3_, s1_, s2_, i64_w, i32_w]; rfl)
                      refine pure_ (i := 1) (N := some 170) (v := ?_) (a' := ?_) (bs_ 41 3) rfl rfl (any_of HT_.out (by kernel_rfl)) (fun _ _ _ h => h) (Or.inl ⟨by rfl, ?_⟩) ?_ ?_
                      rotate_left; (· intro w'; go_simp; with_reducible rfl); rotate_left; (· simp only [Act.put, s3_, s1_, s2_, i64_w, i32_w]; rfl)
                      refine pure_ (i := 2) (N := some 171) (v := ?_) (a' := ?_) (bs_ 41 7) rfl rfl (any_of HT_.out (by kernel_rfl)) (fun _ _ _ h => h) (Or.inl ⟨by rfl, ?_⟩) ?_ ?_
                      rotate_left; (· intro w'; go_simp; with_reducible rfl); rotate_left; (· simp only [Act.put, s3_, s1_, s2_, i64_w, i32_w]; rfl)
                      refine pure_ (i := 3) (N := some 172) (v := ?_) (a' := ?_) (bs_ 41 15) rfl rfl (any_of HT_.out (by kernel_rfl)) (fun _ _ _ h => h) (Or.inl ⟨by rfl, ?_⟩) ?_ ?_
                      rotate_left; (· intro w'; go_simp; with_reducible rfl); rotate_left; (· simp only [Act.put, s3_, s1_, s2_, i64_w, i32_w]; rfl)
                      refine pure_ (i := 5) (N := some 174) (v := ?_) (a' := ?_) (bs_ 41 47) rfl rfl (any_of HT_.out (by kernel_rfl)) (fun _ _ _ h => h) (Or.inl ⟨by rfl, ?_⟩) ?_ ?_
                      rotate_left; (· intro w'; go_simp; with_reducible rfl); rotate_left; (· simp only [Act.put, s3_, s1_, s2_, i64_w, i32_w]; rfl)
                      refine take_ (i := 4) (N := some 173) (v := ?_) (a' := ?_) (bs_ 41 63) rfl rfl (take_ofW HT_.out HW_.out (by kernel_rfl)) (fun _ _ _ h => h) (Or.inl ⟨by rfl, ?_⟩) hHeld ?_ ?_
                      rotate_left; (· rintro w' ⟨s0, s1, s2, s3, s4, s5, s6, s7, s8, s9, s10, s11, s12, s13, s14⟩; go_simp; with_reducible rfl); rotate_left; (· simp only [Act.put, s3_, s1_, s2_, i64_w, i32_w]; rfl)
                      refine pure_ (i := 6) (N := some 175) (v := ?_) (a' := ?_) (bs_ 41 127) rfl rfl (any_of HT_.out (by kernel_rfl)) (fun _ _ _ h => h) (Or.inl ⟨by rfl, ?_⟩) ?_ ?_
                      rotate_left; (· intro w'; go_simp; with_reducible rfl); rotate_left; (· simp only [Act.put, s3_, s1_, s2_, i64_w, i32_w]; rfl)
                      refine pure_ (i := 7) (N := some 176) (v := ?_) (a' := ?_) (bs_ 41 255) rfl rfl (any_of HT_.out (by kernel_rfl)) (fun _ _ _ h => h) (Or.inl ⟨by rfl, ?_⟩) ?_ ?_
                      rotate_left; (· intro w'; go_simp; with_reducible rfl); rotate_left; (· simp only [Act.put, s3_, s1_, s2_, i64_w, i32_w]; rfl)
                      refine pure_ (i := 8) (N := some 177) (v := ?_) (a' := ?_) (bs_ 41 511) rfl rfl (any_of HT_.out (by kernel_rfl)) (fun _ _ _ h => h) (Or.inl ⟨by rfl, ?_⟩) ?_ ?_
                      rotate_left; (· intro w'; go_simp; with_reducible rfl); rotate_left; (· simp only [Act.put, s3_, s1_, s2_, i64_w, i32_w]; rfl)
                      refine pure_ (i := 9) (N := some 178) (v := ?_) (a' := ?_) (bs_ 41 1023) rfl rfl (any_of HT_.out (by kernel_rfl)) (fun _ _ _ h => h) (Or.inl ⟨by rfl, ?_⟩) ?_ ?_
                      rotate_left; (· intro w'; go_simp; with_reducible rfl); rotate_left; (· simp only [Act.put, s3_, s1_, s2_, i64_w, i32_w]; rfl)
                      refine pure_ (i := 10) (N := some 179) (v := ?_) (a' := ?_) (bs_ 41 2047) rfl rfl (any_of HT_.out (by kernel_rfl)) (fun _ _ _ h => h) (Or.inl ⟨by rfl, ?_⟩) ?_ ?_
                      rotate_left; (· intro w'; go_simp; with_reducible rfl); rotate_left; (· simp only [Act.put, s3_, s1_, s2_, i64_w, i32_w]; rfl)
                      refine pure_ (i := 11) (N := some 180) (v := undef) (a' := ?_) (bs_ 41 4095) rfl rfl (any_of HT_.out (by kernel_rfl)) (fun _ _ _ h => h) (Or.inr ⟨by rfl, rfl⟩) ?_ ?_
                      rotate_left
                      ·simp only [Act.put, s3_, s1_, s2_, i64_w, i32_w]
                       rfl
                      refine pure_ (i := 12) (N := some 181) (v := undef) (a' := ?_) (bs_ 41 8191) rfl rfl (any_of HT_.out (by kernel_rfl)) (fun _ _ _ h => h) (Or.inr ⟨by rfl, rfl⟩) ?_ ?_
                      rotate_left
                      ·simp only [Act.put, s3_, s1_, s2_, i64_w, i32_w]
                       rfl
                      refine pure_ (i := 13) (N := some 182) (v := undef) (a' := ?_) (bs_ 41 16383) rfl rfl (any_of HT_.out (by kernel_rfl)) (fun _ _ _ h => h) (Or.inr ⟨by rfl, rfl⟩) ?_ ?_
                      rotate_left
                      ·simp only [Act.put, s3_, s1_, s2_, i64_w, i32_w]
                       rfl
                      refine pure_ (i := 14) (N := some 183) (v := undef) (a' := ?_) (bs_ 41 32767) rfl rfl (any_of HT_.out (by kernel_rfl)) (fun _ _ _ h => h) (Or.inr ⟨by rfl, rfl⟩) ?_ ?_
                      rotate_left
                      ·simp only [Act.put, s3_, s1_, s2_, i64_w, i32_w]
                       rfl
                      refine pure_ (i := 15) (N := some 184) (v := undef) (a' := ?_) (bs_ 41 65535) rfl rfl (any_of HT_.out (by kernel_rfl)) (fun _ _ _ h => h) (Or.inr ⟨by rfl, rfl⟩) ?_ ?_
                      rotate_left
                      ·simp only [Act.put, s3_, s1_, s2_, i64_w, i32_w]
                       rfl
                      refine pure_ (i := 16) (N := some 185) (v := undef) (a' := ?_) (bs_ 41 131071) rfl rfl (any_of HT_.out (by kernel_rfl)) (fun _ _ _ h => h) (Or.inr ⟨by rfl, rfl⟩) ?_ ?_
                      rotate_left
                      ·simp only [Act.put, s3_, s1_, s2_, i64_w, i32_w]
                       rfl
                      refine pure_ (i := 17) (N := some 186) (v := undef) (a' := ?_) (bs_ 41 262143) rfl rfl (any_of HT_.out (by kernel_rfl)) (fun _ _ _ h => h) (Or.inr ⟨by rfl, rfl⟩) ?_ ?_
                      rotate_left
                      ·simp only [Act.put, s3_, s1_, s2_, i64_w, i32_w]
                       rfl
                      refine pure_ (i := 18) (N := some 187) (v := undef) (a' := ?_) (bs_ 41 524287) rfl rfl (any_of HT_.out (by kernel_rfl)) (fun _ _ _ h => h) (Or.inr ⟨by rfl, rfl⟩) ?_ ?_
                      rotate_left
                      ·simp only [Act.put, s3_, s1_, s2_, i64_w, i32_w]
                       rfl
                      refine pure_ (i := 19) (N := some 188) (v := undef) (a' := ?_) (bs_ 41 1048575) rfl rfl (any_of HT_.out (by kernel_rfl)) (fun _ _ _ h => h) (Or.inr ⟨by rfl, rfl⟩) ?_ ?_
                      rotate_left
                      ·simp only [Act.put, s3_, s1_, s2_, i64_w, i32_w]
                       rfl
                      refine pure_ (i := 20) (N := some 189) (v := undef) (a' := ?_) (bs_ 41 2097151) rfl rfl (any_of HT_.out (by kernel_rfl)) (fun _ _ _ h => h) (Or.inr ⟨by rfl, rfl⟩) ?_ ?_
                      rotate_left
                      ·simp only [Act.put, s3_, s1_, s2_, i64_w, i32_w]
                       rfl
                      refine pure_ (i := 21) (N := some 190) (v := undef) (a' := ?_) (bs_ 41 4194303) rfl rfl (any_of HT_.out (by kernel_rfl)) (fun _ _ _ h => h) (Or.inr ⟨by rfl, rfl⟩) ?_ ?_
                      rotate_left
                      ·simp only [Act.put, s3_, s1_, s2_, i64_w, i32_w]
                       rfl
                      refine pure_ (i := 22) (N := some 191) (v := undef) (a' := ?_) (bs_ 41 8388607) rfl rfl (any_of HT_.out (by kernel_rfl)) (fun _ _ _ h => h) (Or.inr ⟨by rfl, rfl⟩) ?_ ?_
                      rotate_left
                      ·simp only [Act.put, s3_, s1_, s2_, i64_w, i32_w]
                       rfl
                      refine pure_ (i := 23) (N := some 192) (v := ?_) (a' := ?_) (bs_ 41 16777215) rfl rfl (any_of HT_.out (by kernel_rfl)) (fun _ _ _ h => h) (Or.inl ⟨by rfl, ?_⟩) ?_ ?_
                      rotate_left; (· intro w'; go_simp; with_reducible rfl); rotate_left; (· simp only [Act.put, s3_, s1_, s2_, i64_w, i32_w]; rfl)
                      refine pure_ (i := 24) (N := some 193) (v := ?_) (a' := ?_) (bs_ 41 33554431) rfl rfl (any_of HT_.out (by kernel_rfl)) (fun _ _ _ h => h) (Or.inl ⟨by rfl, ?_⟩) ?_ ?_
                      rotate_left; (· intro w'; go_simp; with_reducible rfl); rotate_left; (· simp only [Act.put, s3_, s1_, s2_, i64_w, i32_w]; rfl)
                      refine pure_ (i := 25) (N := some 194) (v := ?_) (a' := ?_) (bs_ 41 67108863) rfl rfl (any_of HT_.out (by kernel_rfl)) (fun _ _ _ h => h) (Or.inl ⟨by rfl, ?_⟩) ?_ ?_
                      rotate_left; (· intro w'; go_simp; with_reducible rfl); rotate_left; (· simp only [Act.put, s3_, s1_, s2_, i64_w, i32_w]; rfl)
                      refine pure_ (i := 26) (N := some 195) (v := ?_) (a' := ?_) (bs_ 41 134217727) rfl rfl (any_of HT_.out (by kernel_rfl)) (fun _ _ _ h => h) (Or.inl ⟨by rfl, ?_⟩) ?_ ?_
                      rotate_left; (· intro w'; go_simp; with_reducible rfl); rotate_left; (· simp only [Act.put, s3_, s1_, s2_, i64_w, i32_w]; rfl)
                      refine pure_ (i := 27) (N := some 196) (v := ?_) (a' := ?_) (bs_ 41 268435455) rfl rfl (any_of HT_.out (by kernel_rfl)) (fun _ _ _ h => h) (Or.inl ⟨by rfl, ?_⟩) ?_ ?_
                      rotate_left; (· intro w'; go_simp; with_reducible rfl); rotate_left; (· simp only [Act.put, s3_, s1_, s2_, i64_w, i32_w]; rfl)
                      refine pure_ (i := 28) (N := some 197) (v := ?_) (a' := ?_) (bs_ 41 536870911) rfl rfl (any_of HT_.out (by kernel_rfl)) (fun _ _ _ h => h) (Or.inl ⟨by rfl, ?_⟩) ?_ ?_
                      rotate_left; (· intro w'; go_simp; with_reducible rfl); rotate_left; (· simp only [Act.put, s3_, s1_, s2_, i64_w, i32_w]; rfl)
                      refine pure_ (i := 29) (N := some 198) (v := ?_) (a' := ?_) (bs_ 41 1073741823) rfl rfl (any_of HT_.out (by kernel_rfl)) (fun _ _ _ h => h) (Or.inl ⟨by rfl, ?_⟩) ?_ ?_
                      rotate_left; (· intro w'; go_simp; with_reducible rfl); rotate_left; (· simp only [Act.put, s3_, s1_, s2_, i64_w, i32_w]; rfl)
                      refine pure_ (i := 32) (N := some 201) (v := ?_) (a' := ?_) (bs_ 41 5368709119) rfl rfl (any_of HT_.out (by kernel_rfl)) (fun _ _ _ h => h) (Or.inl ⟨by rfl, ?_⟩) ?_ ?_
                      rotate_left; (· intro w'; go_simp; with_reducible rfl); rotate_left; (· simp only [Act.put, s3_, s1_, s2_, i64_w, i32_w]; rfl)
                      refine pure_ (i := 33) (N := some 202) (v := ?_) (a' := ?_) (bs_ 41 13958643711) rfl rfl (any_of HT_.out (by kernel_rfl)) (fun _ _ _ h => h) (Or.inl ⟨by rfl, ?_⟩) ?_ ?_
                      rotate_left; (· intro w'; go_simp; with_reducible rfl); rotate_left; (· simp only [Act.put, s3_, s1_, s2_, i64_w, i32_w]; rfl)
                      refine pure_ (i := 34) (N := some 203) (v := ?_) (a' := ?_) (bs_ 41 31138512895) rfl rfl (any_of HT_.out (by kernel_rfl)) (fun _ _ _ h => h) (Or.inl ⟨by rfl, ?_⟩) ?_ ?_
                      rotate_left; (· intro w'; go_simp; with_reducible rfl); rotate_left; (· simp only [Act.put, s3_, s1_, s2_, i64_w, i32_w]; rfl)
                      refine pure_ (i := 35) (N := some 204) (v := ?_) (a' := ?_) (bs_ 41 65498251263) rfl rfl (any_of HT_.out (by kernel_rfl)) (fun _ _ _ h => h) (Or.inl ⟨by rfl, ?_⟩) ?_ ?_
                      rotate_left; (· intro w'; go_simp; with_reducible rfl); rotate_left; (· simp only [Act.put, s3_, s1_, s2_, i64_w, i32_w]; rfl)
                      refine pure_ (i := 36) (N := some 205) (v := ?_) (a' := ?_) (bs_ 41 134217727999) rfl rfl (any_of HT_.out (by kernel_rfl)) (fun _ _ _ h => h) (Or.inl ⟨by rfl, ?_⟩) ?_ ?_
                      rotate_left; (· intro w'; go_simp; with_reducible rfl); rotate_left; (· simp only [Act.put, s3_, s1_, s2_, i64_w, i32_w]; rfl)
                      refine take_ (i := 30) (N := some 199) (v := ?_) (a' := ?_) (bs_ 41 135291469823) rfl rfl (take_ofW HT_.out HW_.out (by kernel_rfl)) (fun _ _ _ h => h) (Or.inl ⟨by rfl, ?_⟩) hHeld ?_ ?_
                      rotate_left; (· rintro w' ⟨s0, s1, s2, s3, s4, s5, s6, s7, s8, s9, s10, s11, s12, s13, s14⟩; go_simp; with_reducible rfl); rotate_left; (· simp only [Act.put, s3_, s1_, s2_, i64_w, i32_w]; rfl)
                      refine pure_ (i := 31) (N := some 200) (v := ?_) (a' := ?_) (bs_ 41 137438953471) rfl rfl (any_of HT_.out (by kernel_rfl)) (fun _ _ _ h => h) (Or.inl ⟨by rfl, ?_⟩) ?_ ?_
                      rotate_left; (· intro w'; go_simp; with_reducible rfl); rotate_left; (· simp only [Act.put, s3_, s1_, s2_, i64_w, i32_w]; rfl)
                      refine take_ (i := 37) (N := some 206) (v := ?_) (a' := ?_) (bs_ 41 274877906943) rfl rfl (take_ofW HT_.out HW_.out (by kernel_rfl)) (fun _ _ _ h => h) (Or.inl ⟨by rfl, ?_⟩) hHeld ?_ ?_
                      rotate_left; (· rintro w' ⟨s0, s1, s2, s3, s4, s5, s6, s7, s8, s9, s10, s11, s12, s13, s14⟩; go_simp; with_reducible rfl); rotate_left; (· simp only [Act.put, s3_, s1_, s2_, i64_w, i32_w]; rfl)
                      refine one_ (i := 38) (N := some 207) (bs_ 41 549755813887) rfl rfl (one_of HT_.out (by kernel_rfl)) (by decide) (fun K hK => ?_)
                      refine goes_ Try.func12 (by kernel_rfl) rfl #[.slice A5 l5.length c5, .string ((rd_T36 t254 x20_5).f1)] (by rfl) rfl rfl (by (try simp only [List.map_toArray, List.map_cons, List.map_nil]); first | done | rfl | (simp only [List.length_drop, List.length_take]; rfl)) ?_
                      with_reducible refine (tocsinref22_Has.calls k5 _ _ l5 ((rd_T36 t254 x20_5).f1) t273 _ ?side1 ?side2 A90.out).mono ?_
                      (case side1 => repeat (first | exact (Kd.C_below HR5.out HB.out) | (with_reducible refine Kd.C_alloc ?_ _) | (with_reducible refine Kd.C_drewN ?_ _) | (with_reducible refine Kd.C_drew ?_)))
                      (case side2 => exact HC5.out)
                      rintro e w' ⟨rfl, ⟨nd, rfl⟩⟩
                      refine ⟨_, rfl, ?_⟩
                      refine hK.out _ _ ⟨hHeld.1, hHeld.2.1, hHeld.2.2.1, hHeld.2.2.2.1, hHeld.2.2.2.2.1, hHeld.2.2.2.2.2.1, hHeld.2.2.2.2.2.2.1, hHeld.2.2.2.2.2.2.2.1, hHeld.2.2.2.2.2.2.2.2.1, hHeld.2.2.2.2.2.2.2.2.2.1, hHeld.2.2.2.2.2.2.2.2.2.2.1, hHeld.2.2.2.2.2.2.2.2.2.2.2.1, hHeld.2.2.2.2.2.2.2.2.2.2.2.2.1, hHeld.2.2.2.2.2.2.2.2.2.2.2.2.2.1, hHeld.2.2.2.2.2.2.2.2.2.2.2.2.2.2⟩ (fun hHeld => ?_)
                      clear hK K
                      refine norm_ (a' := ?_) ?_ ?_
                      rotate_left
                      ·show Act.put _ (some 207) _ = _
                       simp only [Act.put, s3_, s1_, s2_, i64_w, i32_w]
                       rfl
                      refine pure_ (i := 39) (N := some 208) (v := ?_) (a' := ?_) (bs_ 41 1099511627775) rfl rfl (any_of HT_.out (by kernel_rfl)) (fun _ _ _ h => h) (Or.inl ⟨by rfl, ?_⟩) ?_ ?_
                      rotate_left; (· intro w'; go_simp; with_reducible rfl); rotate_left; (· simp only [Act.put, s3_, s1_, s2_, i64_w, i32_w]; rfl)
                      refine pure_ (i := 40) (N := some 209) (v := ?_) (a' := ?_) (bs_ 41 2199023255551) rfl rfl (any_of HT_.out (by kernel_rfl)) (fun _ _ _ h => h) (Or.inl ⟨by rfl, ?_⟩) ?_ ?_
                      rotate_left; (· intro w'; go_simp; with_reducible rfl); rotate_left; (· simp only [Act.put, s3_, s1_, s2_, i64_w, i32_w]; rfl)
                      refine done_ (done_of HT_.out (by kernel_rfl)) ?_
                      try go_wp2
                      go_roundg k5
                      case measure => have := HJ8.out; have := HK2.out; have := HK3.out; have := HJ53.out; have := HK5.out; omega
                      case rel => exact ⟨(wrap64 (x20_5 + 1)), (by first | rfl | (simp; done) | (simp [*]; done)), H', ⟨by have := HJ8.out; have := HK2.out; have := HK3.out; have := HJ53.out; have := HK5.out; omega⟩, ⟨by (with_reducible repeat (first | apply Kd.R_alloc | apply Kd.R_drewN | apply Kd.R_drew)); exact HO_13.out⟩, ⟨by (with_reducible repeat (first | apply Kd.R_alloc | apply Kd.R_drewN | apply Kd.R_drew)); exact HO_19.out⟩, ⟨by repeat (first | (with_reducible first | exact HB.out | apply below_alloc | apply pw_below_drewN | apply below_drew1) | exact HB.out)⟩⟩
                  ·rw [if_neg c76] at H
                   have c76b0 : (((rd_T36 t254 x20_5).f0) == a1) = false := beq_eq_false_iff_ne.mpr c76
                   have c76b1 : (((rd_T36 t254 x20_5).f0) != a1) = true := bne_iff_ne.mpr c76
                   obtain rfl := Option.some.inj H
                   obtain ⟨Ao96, co96, eo96⟩ := Kd.R_slice HO_19.out
                   subst eo96
                   try go_wp2
                   have n0_ := Aside0.mk (Kd.R_drew HO_13.out)
                   have n1_ := Aside0.mk (Kd.R_drew HO_19.out)
                   have n2_ := Aside0.mk (below_drew1 HB.out)
                   clear HO_13; clear HO_19; clear HB; have HO_13 := n0_; have HO_19 := n1_; have HB := n2_
                   clear n0_ n1_ n2_
                   have p265 : 0 ≤ (x20_5 : Int) := of_decide_eq_true (by first | (with_reducible assumption) | assumption)
                   have q265 : x20_5 < (t254.length : Int) := of_decide_eq_true (by first | (with_reducible assumption) | assumption)
                   obtain ⟨ad265, e265, hx265_0, hx265_1, hx265_2, hx265_3, hx265_4⟩ := at_T36 (Kd.R_reads' HO_19.out).2.2 x20_5 p265 q265
                   cases e265
                   replace p265 := eq_true p265; replace q265 := eq_true q265
                   as_aux_lemma =>
                    refine start_ (n := 41) (S := fun w' => w'.cell? (ad265.add ((x20_5).toNat * 5)) = some (.int .u32 ((rd_T36 t254 x20_5).f0)) ∧ w'.cell? ⟨(ad265.add ((x20_5).toNat * 5)).block, (ad265.add ((x20_5).toNat * 5)).off + 1, none⟩ = some (.string ((rd_T36 t254 x20_5).f1)) ∧ w'.cell? ⟨(ad265.add ((x20_5).toNat * 5)).block, (ad265.add ((x20_5).toNat * 5)).off + 2, none⟩ = some (.int .u8 ((rd_T36 t254 x20_5).f2)) ∧ w'.cell? ⟨(ad265.add ((x20_5).toNat * 5)).block, (ad265.add ((x20_5).toNat * 5)).off + 3, none⟩ = some (.int .i64 ((rd_T36 t254 x20_5).f3)) ∧ w'.cell? ⟨(ad265.add ((x20_5).toNat * 5)).block, (ad265.add ((x20_5).toNat * 5)).off + 4, none⟩ = some (.int .i64 ((rd_T36 t254 x20_5).f4))) (ds := []) (bs_ 41 0) (by kernel_rfl) rfl rfl ⟨hx265_0, hx265_1, hx265_2, hx265_3, hx265_4⟩ (fun hHeld => ?_); refine with_tabW tocsinlaw22_AlertsOthers.tab30 tocsinlaw22_AlertsOthers.bits30 (fun HT_ HW_ => ?_)
                    generalize wr.drew = w97 at HO_13 HO_19 HB hx265_0 hx265_1 hx265_2 hx265_3 hx265_4 hHeld ⊢
                    refine pure_ (i := 0) (N := some 169) (v := ?_) (a' := ?_) (bs_ 41 1) rfl rfl (any_of HT_.out (by kernel_rfl)) (fun _ _ _ h => h) (Or.inl ⟨by rfl, ?_⟩) ?_ ?_
                    rotate_left; (· intro w'; go_simp; with_reducible rfl); rotate_left; (· simp only [Act.put, s3_, s1_, s2_, i64_w, i32_w]; rfl)
                    refine pure_ (i := 1) (N := some 170) (v := ?_) (a' := ?_) (bs_ 41 3) rfl rfl (any_of HT_.out (by kernel_rfl)) (fun _ _ _ h => h) (Or.inl ⟨by rfl, ?_⟩) ?_ ?_
                    rotate_left; (· intro w'; go_simp; with_reducible rfl); rotate_left; (· simp only [Act.put, s3_, s1_, s2_, i64_w, i32_w]; rfl)
                    refine pure_ (i := 2) (N := some 171) (v := ?_) (a' := ?_) (bs_ 41 7) rfl rfl (any_of HT_.out (by kernel_rfl)) (fun _ _ _ h => h) (Or.inl ⟨by rfl, ?_⟩) ?_ ?_
                    rotate_left; (· intro w'; go_simp; with_reducible rfl); rotate_left; (· simp only [Act.put, s3_, s1_, s2_, i64_w, i32_w]; rfl)
                    refine pure_ (i := 3) (N := some 172) (v := ?_) (a' := ?_) (bs_ 41 15) rfl rfl (any_of HT_.out (by kernel_rfl)) (fun _ _ _ h => h) (Or.inl ⟨by rfl, ?_⟩) ?_ ?_
                    rotate_left; (· intro w'; go_simp; with_reducible rfl); rotate_left; (· simp only [Act.put, s3_, s1_, s2_, i64_w, i32_w]; rfl)
                    refine pure_ (i := 5) (N := some 174) (v := ?_) (a' := ?_) (bs_ 41 47) rfl rfl (any_of HT_.out (by kernel_rfl)) (fun _ _ _ h => h) (Or.inl ⟨by rfl, ?_⟩) ?_ ?_
                    rotate_left; (· intro w'; go_simp; with_reducible rfl); rotate_left; (· simp only [Act.put, s3_, s1_, s2_, i64_w, i32_w]; rfl)
                    refine take_ (i := 4) (N := some 173) (v := ?_) (a' := ?_) (bs_ 41 63) rfl rfl (take_ofW HT_.out HW_.out (by kernel_rfl)) (fun _ _ _ h => h) (Or.inl ⟨by rfl, ?_⟩) hHeld ?_ ?_
                    rotate_left; (· rintro w' ⟨s0, s1, s2, s3, s4⟩; go_simp; with_reducible rfl); rotate_left; (· simp only [Act.put, s3_, s1_, s2_, i64_w, i32_w]; rfl)
                    refine pure_ (i := 6) (N := some 175) (v := ?_) (a' := ?_) (bs_ 41 127) rfl rfl (any_of HT_.out (by kernel_rfl)) (fun _ _ _ h => h) (Or.inl ⟨by rfl, ?_⟩) ?_ ?_
                    rotate_left; (· intro w'; go_simp; with_reducible rfl); rotate_left; (· simp only [Act.put, s3_, s1_, s2_, i64_w, i32_w]; rfl)
                    refine pure_ (i := 7) (N := some 176) (v := ?_) (a' := ?_) (bs_ 41 255) rfl rfl (any_of HT_.out (by kernel_rfl)) (fun _ _ _ h => h) (Or.inl ⟨by rfl, ?_⟩) ?_ ?_
                    rotate_left; (· intro w'; go_simp; with_reducible rfl); rotate_left; (· simp only [Act.put, s3_, s1_, s2_, i64_w, i32_w]; rfl)
                    refine pure_ (i := 8) (N := some 177) (v := undef) (a' := ?_) (bs_ 41 511) rfl rfl (any_of HT_.out (by kernel_rfl)) (fun _ _ _ h => h) (Or.inr ⟨by rfl, rfl⟩) ?_ ?_
                    rotate_left
                    ·simp only [Act.put, s3_, s1_, s2_, i64_w, i32_w]
                     rfl
                    refine pure_ (i := 9) (N := some 178) (v := undef) (a' := ?_) (bs_ 41 1023) rfl rfl (any_of HT_.out (by kernel_rfl)) (fun _ _ _ h => h) (Or.inr ⟨by rfl, rfl⟩) ?_ ?_
                    rotate_left
                    ·simp only [Act.put, s3_, s1_, s2_, i64_w, i32_w]
                     rfl
                    refine pure_ (i := 10) (N := some 179) (v := undef) (a' := ?_) (bs_ 41 2047) rfl rfl (any_of HT_.out (by kernel_rfl)) (fun _ _ _ h => h) (Or.inr ⟨by rfl, rfl⟩) ?_ ?_
                    rotate_left
                    ·simp only [Act.put, s3_, s1_, s2_, i64_w, i32_w]
                     rfl
                    refine pure_ (i := 11) (N := some 180) (v := undef) (a' := ?_) (bs_ 41 4095) rfl rfl (any_of HT_.out (by kernel_rfl)) (fun _ _ _ h => h) (Or.inr ⟨by rfl, rfl⟩) ?_ ?_
                    rotate_left
                    ·simp only [Act.put, s3_, s1_, s2_, i64_w, i32_w]
                     rfl
                    refine pure_ (i := 12) (N := some 181) (v := undef) (a' := ?_) (bs_ 41 8191) rfl rfl (any_of HT_.out (by kernel_rfl)) (fun _ _ _ h => h) (Or.inr ⟨by rfl, rfl⟩) ?_ ?_
                    rotate_left
                    ·simp only [Act.put, s3_, s1_, s2_, i64_w, i32_w]
                     rfl
                    refine pure_ (i := 13) (N := some 182) (v := undef) (a' := ?_) (bs_ 41 16383) rfl rfl (any_of HT_.out (by kernel_rfl)) (fun _ _ _ h => h) (Or.inr ⟨by rfl, rfl⟩) ?_ ?_
                    rotate_left
                    ·simp only [Act.put, s3_, s1_, s2_, i64_w, i32_w]
                     rfl
                    refine pure_ (i := 14) (N := some 183) (v := undef) (a' := ?_) (bs_ 41 32767) rfl rfl (any_of HT_.out (by kernel_rfl)) (fun _ _ _ h => h) (Or.inr ⟨by rfl, rfl⟩) ?_ ?_
                    rotate_left
                    ·simp only [Act.put, s3_, s1_, s2_, i64_w, i32_w]
                     rfl
                    refine pure_ (i := 15) (N := some 184) (v := undef) (a' := ?_) (bs_ 41 65535) rfl rfl (any_of HT_.out (by kernel_rfl)) (fun _ _ _ h => h) (Or.inr ⟨by rfl, rfl⟩) ?_ ?_
                    rotate_left
                    ·simp only [Act.put, s3_, s1_, s2_, i64_w, i32_w]
                     rfl
                    refine pure_ (i := 16) (N := some 185) (v := undef) (a' := ?_) (bs_ 41 131071) rfl rfl (any_of HT_.out (by kernel_rfl)) (fun _ _ _ h => h) (Or.inr ⟨by rfl, rfl⟩) ?_ ?_
                    rotate_left
                    ·simp only [Act.put, s3_, s1_, s2_, i64_w, i32_w]
                     rfl
                    refine pure_ (i := 17) (N := some 186) (v := undef) (a' := ?_) (bs_ 41 262143) rfl rfl (any_of HT_.out (by kernel_rfl)) (fun _ _ _ h => h) (Or.inr ⟨by rfl, rfl⟩) ?_ ?_
                    rotate_left
                    ·simp only [Act.put, s3_, s1_, s2_, i64_w, i32_w]
                     rfl
                    refine pure_ (i := 18) (N := some 187) (v := undef) (a' := ?_) (bs_ 41 524287) rfl rfl (any_of HT_.out (by kernel_rfl)) (fun _ _ _ h => h) (Or.inr ⟨by rfl, rfl⟩) ?_ ?_
                    rotate_left
                    ·simp only [Act.put, s3_, s1_, s2_, i64_w, i32_w]
                     rfl
                    refine pure_ (i := 19) (N := some 188) (v := undef) (a' := ?_) (bs_ 41 1048575) rfl rfl (any_of HT_.out (by kernel_rfl)) (fun _ _ _ h => h) (Or.inr ⟨by rfl, rfl⟩) ?_ ?_
                    rotate_left
                    ·simp only [Act.put, s3_, s1_, s2_, i64_w, i32_w]
                     rfl
                    refine pure_ (i := 20) (N := some 189) (v := undef) (a' := ?_) (bs_ 41 2097151) rfl rfl (any_of HT_.out (by kernel_rfl)) (fun _ _ _ h => h) (Or.inr ⟨by rfl, rfl⟩) ?_ ?_
                    rotate_left
                    ·simp only [Act.put, s3_, s1_, s2_, i64_w, i32_w]
                     rfl
                    refine pure_ (i := 21) (N := some 190) (v := undef) (a' := ?_) (bs_ 41 4194303) rfl rfl (any_of HT_.out (by kernel_rfl)) (fun _ _ _ h => h) (Or.inr ⟨by rfl, rfl⟩) ?_ ?_
                    rotate_left
                    ·simp only [Act.put, s3_, s1_, s2_, i64_w, i32_w]
                     rfl
                    refine pure_ (i := 22) (N := some 191) (v := undef) (a' := ?_) (bs_ 41 8388607) rfl rfl (any_of HT_.out (by kernel_rfl)) (fun _ _ _ h => h) (Or.inr ⟨by rfl, rfl⟩) ?_ ?_
                    rotate_left
                    ·simp only [Act.put, s3_, s1_, s2_, i64_w, i32_w]
                     rfl
                    refine pure_ (i := 23) (N := some 192) (v := undef) (a' := ?_) (bs_ 41 16777215) rfl rfl (any_of HT_.out (by kernel_rfl)) (fun _ _ _ h => h) (Or.inr ⟨by rfl, rfl⟩) ?_ ?_
                    rotate_left
                    ·simp only [Act.put, s3_, s1_, s2_, i64_w, i32_w]
                     rfl
                    refine pure_ (i := 24) (N := some 193) (v := ?_) (a' := ?_) (bs_ 41 33554431) rfl rfl (any_of HT_.out (by kernel_rfl)) (fun _ _ _ h => h) (Or.inl ⟨by rfl, ?_⟩) ?_ ?_
                    rotate_left; (· intro w'; go_simp; with_reducible rfl); rotate_left; (· simp only [Act.put, s3_, s1_, s2_, i64_w, i32_w]; rfl)
                    refine pure_ (i := 25) (N := some 194) (v := ?_) (a' := ?_) (bs_ 41 67108863) rfl rfl (any_of HT_.out (by kernel_rfl)) (fun _ _ _ h => h) (Or.inl ⟨by rfl, ?_⟩) ?_ ?_
                    rotate_left; (· intro w'; go_simp; with_reducible rfl); rotate_left; (· simp only [Act.put, s3_, s1_, s2_, i64_w, i32_w]; rfl)
                    refine pure_ (i := 26) (N := some 195) (v := undef) (a' := ?_) (bs_ 41 134217727) rfl rfl (any_of HT_.out (by kernel_rfl)) (fun _ _ _ h => h) (Or.inr ⟨by rfl, rfl⟩) ?_ ?_
                    rotate_left
                    ·simp only [Act.put, s3_, s1_, s2_, i64_w, i32_w]
                     rfl
                    refine pure_ (i := 27) (N := some 196) (v := undef) (a' := ?_) (bs_ 41 268435455) rfl rfl (any_of HT_.out (by kernel_rfl)) (fun _ _ _ h => h) (Or.inr ⟨by rfl, rfl⟩) ?_ ?_
                    rotate_left
                    ·simp only [Act.put, s3_, s1_, s2_, i64_w, i32_w]
                     rfl
                    refine pure_ (i := 28) (N := some 197) (v := undef) (a' := ?_) (bs_ 41 536870911) rfl rfl (any_of HT_.out (by kernel_rfl)) (fun _ _ _ h => h) (Or.inr ⟨by rfl, rfl⟩) ?_ ?_
                    rotate_left
                    ·simp only [Act.put, s3_, s1_, s2_, i64_w, i32_w]
                     rfl
                    refine pure_ (i := 29) (N := some 198) (v := undef) (a' := ?_) (bs_ 41 1073741823) rfl rfl (any_of HT_.out (by kernel_rfl)) (fun _ _ _ h => h) (Or.inr ⟨by rfl, rfl⟩) ?_ ?_
                    rotate_left
                    ·simp only [Act.put, s3_, s1_, s2_, i64_w, i32_w]
                     rfl
                    refine pure_ (i := 30) (N := some 199) (v := undef) (a' := ?_) (bs_ 41 2147483647) rfl rfl (any_of HT_.out (by kernel_rfl)) (fun _ _ _ h => h) (Or.inr ⟨by rfl, rfl⟩) ?_ ?_
                    rotate_left
                    ·simp only [Act.put, s3_, s1_, s2_, i64_w, i32_w]
                     rfl
                    refine pure_ (i := 31) (N := some 200) (v := undef) (a' := ?_) (bs_ 41 4294967295) rfl rfl (any_of HT_.out (by kernel_rfl)) (fun _ _ _ h => h) (Or.inr ⟨by rfl, rfl⟩) ?_ ?_
                    rotate_left
                    ·simp only [Act.put, s3_, s1_, s2_, i64_w, i32_w]
                     rfl
                    refine pure_ (i := 32) (N := some 201) (v := undef) (a' := ?_) (bs_ 41 8589934591) rfl rfl (any_of HT_.out (by kernel_rfl)) (fun _ _ _ h => h) (Or.inr ⟨by rfl, rfl⟩) ?_ ?_
                    rotate_left
                    ·simp only [Act.put, s3_, s1_, s2_, i64_w, i32_w]
                     rfl
                    refine pure_ (i := 33) (N := some 202) (v := undef) (a' := ?_) (bs_ 41 17179869183) rfl rfl (any_of HT_.out (by kernel_rfl)) (fun _ _ _ h => h) (Or.inr ⟨by rfl, rfl⟩) ?_ ?_
                    rotate_left
                    ·simp only [Act.put, s3_, s1_, s2_, i64_w, i32_w]
                     rfl
                    refine pure_ (i := 34) (N := some 203) (v := undef) (a' := ?_) (bs_ 41 34359738367) rfl rfl (any_of HT_.out (by kernel_rfl)) (fun _ _ _ h => h) (Or.inr ⟨by rfl, rfl⟩) ?_ ?_
                    rotate_left
                    ·simp only [Act.put, s3_, s1_, s2_, i64_w, i32_w]
                     rfl
                    refine pure_ (i := 35) (N := some 204) (v := undef) (a' := ?_) (bs_ 41 68719476735) rfl rfl (any_of HT_.out (by kernel_rfl)) (fun _ _ _ h => h) (Or.inr ⟨by rfl, rfl⟩) ?_ ?_
                    rotate_left
                    ·simp only [Act.put, s3_, s1_, s2_, i64_w, i32_w]
                     rfl
                    refine pure_ (i := 36) (N := some 205) (v := undef) (a' := ?_) (bs_ 41 137438953471) rfl rfl (any_of HT_.out (by kernel_rfl)) (fun _ _ _ h => h) (Or.inr ⟨by rfl, rfl⟩) ?_ ?_
                    rotate_left
                    ·simp only [Act.put, s3_, s1_, s2_, i64_w, i32_w]
                     rfl
                    refine pure_ (i := 37) (N := some 206) (v := undef) (a' := ?_) (bs_ 41 274877906943) rfl rfl (any_of HT_.out (by kernel_rfl)) (fun _ _ _ h => h) (Or.inr ⟨by rfl, rfl⟩) ?_ ?_
                    rotate_left
                    ·simp only [Act.put, s3_, s1_, s2_, i64_w, i32_w]
                     rfl
                    refine pure_ (i := 38) (N := some 207) (v := undef) (a' := ?_) (bs_ 41 549755813887) rfl rfl (any_of HT_.out (by kernel_rfl)) (fun _ _ _ h => h) (Or.inr ⟨by rfl, rfl⟩) ?_ ?_
                    rotate_left
                    ·simp only [Act.put, s3_, s1_, s2_, i64_w, i32_w]
                     rfl
                    refine pure_ (i := 39) (N := some 208) (v := undef) (a' := ?_) (bs_ 41 1099511627775) rfl rfl (any_of HT_.out (by kernel_rfl)) (fun _ _ _ h => h) (Or.inr ⟨by rfl, rfl⟩) ?_ ?_
                    rotate_left
                    ·simp only [Act.put, s3_, s1_, s2_, i64_w, i32_w]
                     rfl
                    refine pure_ (i := 40) (N := some 209) (v := ?_) (a' := ?_) (bs_ 41 2199023255551) rfl rfl (any_of HT_.out (by kernel_rfl)) (fun _ _ _ h => h) (Or.inl ⟨by rfl, ?_⟩) ?_ ?_
                    rotate_left; (· intro w'; go_simp; with_reducible rfl); rotate_left; (· simp only [Act.put, s3_, s1_, s2_, i64_w, i32_w]; rfl)
                    refine done_ (done_of HT_.out (by kernel_rfl)) ?_
                    try go_wp2
                    go_ret
                    exact ⟨by first | rfl | (simp [errW_none, errW_some] <;> rfl) | (simp only [Opn.bne_nil, Opn.beq_nil]; done) | (simp [Opn.bne_nil, Opn.beq_nil]; done) | (simp [*, errW_none, errW_some] <;> rfl), by repeat (first | (with_reducible first | exact HB.out | apply below_alloc | apply pw_below_drewN | apply below_drew1) | exact HB.out)⟩
                 ·rw [if_neg c75] at H
                  exact absurd H (by simp)
                ·rw [if_neg c74] at H
                 have c74b0 : decide (x20_5 < (t254.length : Int)) = false := decide_eq_false c74
                 clear c74
                 replace H := Option.bind_eq_some_iff.mp H
                 obtain ⟨t274, A980, H⟩ := H
                 replace H : ((tocsinref22_Same.f k5 t274 t254).bind fun t277 => (if t277 = true then ((alerts_Own.f k5 l0 a1).bind fun t278 => ((tocsinref22_Same.f k5 t278 x13_2).bind fun t281 => (some t281))) else (some false))) = some r := H
                 have A98 := Aside0.mk A980
                 clear A980
                 replace H := Option.bind_eq_some_iff.mp H
                 obtain ⟨t277, A990, H⟩ := H
                 replace H : (if t277 = true then ((alerts_Own.f k5 l0 a1).bind fun t278 => ((tocsinref22_Same.f k5 t278 x13_2).bind fun t281 => (some t281))) else (some false)) = some r := H
                 have A99 := Aside0.mk A990
                 clear A990
                 by_cases c100 : t277 = true
                 ·subst c100
                  have H1 : ((alerts_Own.f k5 l0 a1).bind fun t278 => ((tocsinref22_Same.f k5 t278 x13_2).bind fun t281 => (some t281))) = some r := by rw [if_pos rfl] at H; exact H
                  clear H; have H := H1; clear H1
                  replace H := Option.bind_eq_some_iff.mp H
                  obtain ⟨t278, A1010, H⟩ := H
                  replace H : ((tocsinref22_Same.f k5 t278 x13_2).bind fun t281 => (some t281)) = some r := H
                  have A101 := Aside0.mk A1010
                  clear A1010
                  replace H := Option.bind_eq_some_iff.mp H
                  obtain ⟨t281, A1020, H⟩ := H
                  replace H : (some t281) = some r := H
                  have A102 := Aside0.mk A1020
                  clear A1020
                  obtain rfl := Option.some.inj H
                  obtain ⟨Ao103, co103, eo103⟩ := Kd.R_slice HO_19.out
                  subst eo103
                  go_wp2_with (first | ((with_reducible refine gate_callee (f := 11) rfl ?_); refine goesL_ (some 216) rfl rfl Try.func11 (by kernel_rfl) rfl #[.slice Ao103 t254.length co103, .int .u32 a1, .int .i64 a2, .int .i64 a3, .int .i64 a4, .slice A5 l5.length c5] rfl (by (try simp only [List.map_toArray, List.map_cons, List.map_nil]); first | done | rfl | (simp only [List.length_drop, List.length_take]; rfl)) ?_; (with_reducible refine (alerts_Step.calls _ _ t254 a1 a2 a3 a4 _ _ l5 t274 _ ?side1 ?side2 ?side3 ?side4 A98.out).mono ?_); (case side1 => repeat (first | exact (Kd.R_reads' HO_19.out).2.2 | (with_reducible refine Kd.C_alloc ?_ _) | (with_reducible refine Kd.C_drewN ?_ _) | (with_reducible refine Kd.C_drew ?_))); (case side2 => exact (Kd.R_reads' HO_19.out).2.1); (case side3 => repeat (first | exact (Kd.C_below HR5.out HB.out) | (with_reducible refine Kd.C_alloc ?_ _) | (with_reducible refine Kd.C_drewN ?_ _) | (with_reducible refine Kd.C_drew ?_))); (case side4 => exact HC5.out); rintro e w104 ⟨v275, rfl, ho0, hb⟩; refine ⟨_, rfl, ?_⟩; have n0_ := Aside0.mk (Kd.R_elder' (by (with_reducible repeat (first | apply Kd.R_alloc | apply Kd.R_drewN | apply Kd.R_drew)); exact HO_13.out) (Kd.R_base ho0) hb); have n1_ := Aside0.mk (Kd.R_elder' (by (with_reducible repeat (first | apply Kd.R_alloc | apply Kd.R_drewN | apply Kd.R_drew)); exact HO_19.out) (Kd.R_base ho0) hb); have n2_ := Aside0.mk (Kd.R_lower (Kd.R_new' (Kd.R_new' ho0 (Kd.R_lt (by (with_reducible repeat (first | apply Kd.R_alloc | apply Kd.R_drewN | apply Kd.R_drew)); exact HO_13.out))) (Kd.R_lt (by (with_reducible repeat (first | apply Kd.R_alloc | apply Kd.R_drewN | apply Kd.R_drew)); exact HO_19.out))) (below_size (by repeat (first | (with_reducible first | exact HB.out | apply below_alloc | apply pw_below_drewN | apply below_drew1) | exact HB.out)))); have n3_ := Aside0.mk (below_step (by repeat (first | (with_reducible first | exact HB.out | apply below_alloc | apply pw_below_drewN | apply below_drew1) | exact HB.out)) hb); clear HO_13; clear HO_19; clear HB; have HO_13 := n0_; have HO_19 := n1_; have HO276 := n2_; have HB := n3_; clear n0_ n1_ n2_ n3_; (try clear hb); (try clear hb2); (try clear hk); (try clear hi); (try clear ho0); obtain ⟨Ao105, co105, eo105⟩ := Kd.R_slice HO276.out; subst eo105) | ((with_reducible refine gate_callee (f := 14) rfl ?_); refine goesL_ (some 218) rfl rfl Try.func14 (by kernel_rfl) rfl #[.slice Ao105 t274.length co105, .slice Ao103 t254.length co103] rfl (by (try simp only [List.map_toArray, List.map_cons, List.map_nil]); first | done | rfl | (simp only [List.length_drop, List.length_take]; rfl)) ?_; (with_reducible refine (tocsinref22_Same.calls k5 _ _ t274 _ _ t254 true _ ?side1 ?side2 ?side3 ?side4 A99.out).mono ?_); (case side1 => repeat (first | exact (Kd.R_reads' HO276.out).2.2 | (with_reducible refine Kd.C_alloc ?_ _) | (with_reducible refine Kd.C_drewN ?_ _) | (with_reducible refine Kd.C_drew ?_))); (case side2 => exact (Kd.R_reads' HO276.out).2.1); (case side3 => repeat (first | exact (Kd.R_reads' HO_19.out).2.2 | (with_reducible refine Kd.C_alloc ?_ _) | (with_reducible refine Kd.C_drewN ?_ _) | (with_reducible refine Kd.C_drew ?_))); (case side4 => exact (Kd.R_reads' HO_19.out).2.1); rintro e w' ⟨rfl, ⟨nd, rfl⟩⟩; refine ⟨_, rfl, ?_⟩) | (go_at_call 15; (with_reducible refine (alerts_Own.calls k5 _ _ l0 a1 t278 _ ?side1 ?side2 A101.out).mono ?_); (case side1 => repeat (first | exact (Kd.C_below HR0.out (by repeat (first | (with_reducible first | exact HB.out | apply below_alloc | apply pw_below_drewN | apply below_drew1) | exact HB.out))) | (with_reducible refine Kd.C_alloc ?_ _) | (with_reducible refine Kd.C_drewN ?_ _) | (with_reducible refine Kd.C_drew ?_))); (case side2 => exact HC0.out); rintro e w106 ⟨v279, rfl, ho0, hb⟩; have n0_ := Aside0.mk (Kd.R_elder' (by (with_reducible repeat (first | apply Kd.R_alloc | apply Kd.R_drewN | apply Kd.R_drew)); exact HO_13.out) (Kd.R_base ho0) hb); have n1_ := Aside0.mk (Kd.R_elder' (by (with_reducible repeat (first | apply Kd.R_alloc | apply Kd.R_drewN | apply Kd.R_drew)); exact HO_19.out) (Kd.R_base ho0) hb); have n2_ := Aside0.mk (Kd.R_elder' (by (with_reducible repeat (first | apply Kd.R_alloc | apply Kd.R_drewN | apply Kd.R_drew)); exact HO276.out) (Kd.R_base ho0) hb); have n3_ := Aside0.mk (Kd.R_lower (Kd.R_new' (Kd.R_new' (Kd.R_new' ho0 (Kd.R_lt (by (with_reducible repeat (first | apply Kd.R_alloc | apply Kd.R_drewN | apply Kd.R_drew)); exact HO_13.out))) (Kd.R_lt (by (with_reducible repeat (first | apply Kd.R_alloc | apply Kd.R_drewN | apply Kd.R_drew)); exact HO_19.out))) (Kd.R_lt (by (with_reducible repeat (first | apply Kd.R_alloc | apply Kd.R_drewN | apply Kd.R_drew)); exact HO276.out))) (below_size (by repeat (first | (with_reducible first | exact HB.out | apply below_alloc | apply pw_below_drewN | apply below_drew1) | exact HB.out)))); have n4_ := Aside0.mk (below_step (by repeat (first | (with_reducible first | exact HB.out | apply below_alloc | apply pw_below_drewN | apply below_drew1) | exact HB.out)) hb); clear HO_13; clear HO_19; clear HO276; clear HB; have HO_13 := n0_; have HO_19 := n1_; have HO276 := n2_; have HO280 := n3_; have HB := n4_; clear n0_ n1_ n2_ n3_ n4_; (try clear hb); (try clear hb2); (try clear hk); (try clear hi); (try clear ho0); obtain ⟨Ao107, co107, eo107⟩ := Kd.R_slice HO280.out; subst eo107; obtain ⟨Ao108, co108, eo108⟩ := Kd.R_slice HO_13.out; subst eo108) | (go_at_call 14; (with_reducible refine (tocsinref22_Same.calls k5 _ _ t278 _ _ x13_2 t281 _ ?side1 ?side2 ?side3 ?side4 A102.out).mono ?_); (case side1 => repeat (first | exact (Kd.R_reads' HO280.out).2.2 | (with_reducible refine Kd.C_alloc ?_ _) | (with_reducible refine Kd.C_drewN ?_ _) | (with_reducible refine Kd.C_drew ?_))); (case side2 => exact (Kd.R_reads' HO280.out).2.1); (case side3 => repeat (first | exact (Kd.R_reads' HO_13.out).2.2 | (with_reducible refine Kd.C_alloc ?_ _) | (with_reducible refine Kd.C_drewN ?_ _) | (with_reducible refine Kd.C_drew ?_))); (case side4 => exact (Kd.R_reads' HO_13.out).2.1); rintro e w' ⟨rfl, ⟨nd, rfl⟩⟩))
                  go_ret
                  exact ⟨by first | rfl | (simp [errW_none, errW_some] <;> rfl) | (simp only [Opn.bne_nil, Opn.beq_nil]; done) | (simp [Opn.bne_nil, Opn.beq_nil]; done) | (simp [*, errW_none, errW_some] <;> rfl), by repeat (first | (with_reducible first | exact HB.out | apply below_alloc | apply pw_below_drewN | apply below_drew1) | exact HB.out)⟩
                 ·replace c100 := Bool.eq_false_iff.mpr c100
                  subst c100
                  have H1 : (some false) = some r := by rw [if_neg (show ¬ (false = true) by decide)] at H; exact H
                  clear H; have H := H1; clear H1
                  obtain rfl := Option.some.inj H
                  obtain ⟨Ao109, co109, eo109⟩ := Kd.R_slice HO_19.out
                  subst eo109
                  go_wp2_with (first | ((with_reducible refine gate_callee (f := 11) rfl ?_); refine goesL_ (some 216) rfl rfl Try.func11 (by kernel_rfl) rfl #[.slice Ao109 t254.length co109, .int .u32 a1, .int .i64 a2, .int .i64 a3, .int .i64 a4, .slice A5 l5.length c5] rfl (by (try simp only [List.map_toArray, List.map_cons, List.map_nil]); first | done | rfl | (simp only [List.length_drop, List.length_take]; rfl)) ?_; (with_reducible refine (alerts_Step.calls _ _ t254 a1 a2 a3 a4 _ _ l5 t274 _ ?side1 ?side2 ?side3 ?side4 A98.out).mono ?_); (case side1 => repeat (first | exact (Kd.R_reads' HO_19.out).2.2 | (with_reducible refine Kd.C_alloc ?_ _) | (with_reducible refine Kd.C_drewN ?_ _) | (with_reducible refine Kd.C_drew ?_))); (case side2 => exact (Kd.R_reads' HO_19.out).2.1); (case side3 => repeat (first | exact (Kd.C_below HR5.out HB.out) | (with_reducible refine Kd.C_alloc ?_ _) | (with_reducible refine Kd.C_drewN ?_ _) | (with_reducible refine Kd.C_drew ?_))); (case side4 => exact HC5.out); rintro e w110 ⟨v275, rfl, ho0, hb⟩; refine ⟨_, rfl, ?_⟩; have n0_ := Aside0.mk (Kd.R_elder' (by (with_reducible repeat (first | apply Kd.R_alloc | apply Kd.R_drewN | apply Kd.R_drew)); exact HO_13.out) (Kd.R_base ho0) hb); have n1_ := Aside0.mk (Kd.R_elder' (by (with_reducible repeat (first | apply Kd.R_alloc | apply Kd.R_drewN | apply Kd.R_drew)); exact HO_19.out) (Kd.R_base ho0) hb); have n2_ := Aside0.mk (Kd.R_lower (Kd.R_new' (Kd.R_new' ho0 (Kd.R_lt (by (with_reducible repeat (first | apply Kd.R_alloc | apply Kd.R_drewN | apply Kd.R_drew)); exact HO_13.out))) (Kd.R_lt (by (with_reducible repeat (first | apply Kd.R_alloc | apply Kd.R_drewN | apply Kd.R_drew)); exact HO_19.out))) (below_size (by repeat (first | (with_reducible first | exact HB.out | apply below_alloc | apply pw_below_drewN | apply below_drew1) | exact HB.out)))); have n3_ := Aside0.mk (below_step (by repeat (first | (with_reducible first | exact HB.out | apply below_alloc | apply pw_below_drewN | apply below_drew1) | exact HB.out)) hb); clear HO_13; clear HO_19; clear HB; have HO_13 := n0_; have HO_19 := n1_; have HO276 := n2_; have HB := n3_; clear n0_ n1_ n2_ n3_; (try clear hb); (try clear hb2); (try clear hk); (try clear hi); (try clear ho0); obtain ⟨Ao111, co111, eo111⟩ := Kd.R_slice HO276.out; subst eo111) | ((with_reducible refine gate_callee (f := 14) rfl ?_); refine goesL_ (some 218) rfl rfl Try.func14 (by kernel_rfl) rfl #[.slice Ao111 t274.length co111, .slice Ao109 t254.length co109] rfl (by (try simp only [List.map_toArray, List.map_cons, List.map_nil]); first | done | rfl | (simp only [List.length_drop, List.length_take]; rfl)) ?_; (with_reducible refine (tocsinref22_Same.calls k5 _ _ t274 _ _ t254 false _ ?side1 ?side2 ?side3 ?side4 A99.out).mono ?_); (case side1 => repeat (first | exact (Kd.R_reads' HO276.out).2.2 | (with_reducible refine Kd.C_alloc ?_ _) | (with_reducible refine Kd.C_drewN ?_ _) | (with_reducible refine Kd.C_drew ?_))); (case side2 => exact (Kd.R_reads' HO276.out).2.1); (case side3 => repeat (first | exact (Kd.R_reads' HO_19.out).2.2 | (with_reducible refine Kd.C_alloc ?_ _) | (with_reducible refine Kd.C_drewN ?_ _) | (with_reducible refine Kd.C_drew ?_))); (case side4 => exact (Kd.R_reads' HO_19.out).2.1); rintro e w' ⟨rfl, ⟨nd, rfl⟩⟩; refine ⟨_, rfl, ?_⟩))
                  go_ret
                  exact ⟨by first | rfl | (simp [errW_none, errW_some] <;> rfl) | (simp only [Opn.bne_nil, Opn.beq_nil]; done) | (simp [Opn.bne_nil, Opn.beq_nil]; done) | (simp [*, errW_none, errW_some] <;> rfl), by repeat (first | (with_reducible first | exact HB.out | apply below_alloc | apply pw_below_drewN | apply below_drew1) | exact HB.out)⟩
 ·replace c8 := Bool.eq_false_iff.mpr c8
  subst c8
  have H1 : (some false) = some r := by rw [if_neg (show ¬ (false = true) by decide)] at H; exact H
  clear H; have H := H1; clear H1
  obtain rfl := Option.some.inj H
  go_enter Try.func5, Try.ntmps5
  go_wp2_with (first | ((with_reducible refine gate_callee (f := 8) rfl ?_); refine goesL_ (some 21) rfl rfl Try.func8 (by kernel_rfl) rfl #[] rfl (by (try simp only [List.map_toArray, List.map_cons, List.map_nil]); first | done | rfl | (simp only [List.length_drop, List.length_take]; rfl)) ?_; (with_reducible refine (tocsinlaw22_awake.calls k  false _ A7.out).mono ?_); rintro e w112 ⟨rfl, hb⟩; refine ⟨_, rfl, ?_⟩; have n0_ := Aside0.mk (below_step (by repeat (first | (with_reducible first | exact HB.out | apply below_alloc | apply pw_below_drewN | apply below_drew1) | exact HB.out)) hb); clear HB; have HB := n0_; clear n0_; (try clear hb); (try clear hb2); (try clear hk); (try clear hi)))
  go_ret
  exact ⟨by first | rfl | (simp [errW_none, errW_some] <;> rfl) | (simp only [Opn.bne_nil, Opn.beq_nil]; done) | (simp [Opn.bne_nil, Opn.beq_nil]; done) | (simp [*, errW_none, errW_some] <;> rfl), by repeat (first | (with_reducible first | exact HB.out | apply below_alloc | apply pw_below_drewN | apply below_drew1) | exact HB.out)⟩

/-- THE ONE PURE STATEMENT of tocsinlaw22_AlertsOthers: ours to prove. -/
def tocsinlaw22_AlertsOthers.Pure : Prop := ∀ (l0 : List (S36)) (a1 : Int) (a2 : Int) (a3 : Int) (a4 : Int) (l5 : List ByteArray), l0.length ≤ 9223372036854775807 → l0.length * 48 ≤ 140737488351232 → (∀ y ∈ l0, good36 y) → (Lit.int .u32 a1).wf = true → (Lit.int .i64 a2).wf = true → (Lit.int .i64 a3).wf = true → (Lit.int .i64 a4).wf = true → l5.length ≤ 9223372036854775807 → l5.length * 16 ≤ 140737488351232 → (∀ y ∈ l5, y.size ≤ 9223372036854775807) → ∃ k, tocsinlaw22_AlertsOthers.f k l0 a1 a2 a3 a4 l5 = some true

end Go.Proofs.Ytgfkdcckifdcpaa.Q

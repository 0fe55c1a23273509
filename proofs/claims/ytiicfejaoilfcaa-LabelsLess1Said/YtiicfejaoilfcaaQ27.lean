/- Functions of the program as plain Lean functions, each with the proof that its call comes to just these answers: written by a program of this session (wip/tools/printg.py over the kit's print) for this claim. -/
import Derived.Test.YtiicfejaoilfcaaQ0
import Derived.Test.YtiicfejaoilfcaaQ2
import Derived.Test.YtiicfejaoilfcaaQ3
import Derived.Test.YtiicfejaoilfcaaQ4
import Derived.Test.YtiicfejaoilfcaaQ25
namespace Go.Proofs.Ytiicfejaoilfcaa.Q
open Go.RowKit Go.Proofs.YtiicfejaoilfcaaW.PrintWords Go.Proofs.YtiicfejaoilfcaaW.PrintLast Go.Proofs.YtiicfejaoilfcaaW.PrintMore
attribute [local go_sem] Opn.str_leq Opn.str_gtr Opn.str_geq max2_int min2_int max_two min_two max_three min_three max_four min_four   -- for this text's walks alone
set_option linter.unusedVariables false
set_option linter.unusedSimpArgs false

/-! ### tocsinlaw07_LabelsLess1: function 7 -/
mutual
def tocsinlaw07_LabelsLess1.j0 : Nat → List (S31) → Bool → Option (Bool)
  | 0, _, _ => none
  | k + 1, x0, x14 => if x14 = true then (some true) else (if ([] : List (S31)).length + x0.length < 4398046511104 then ((some (([] : List (S31)) ++ x0 : List (S31))).bind fun y250 => (if 0 ≤ (wrap64 ((x0.length : Int) - 1)) then (if (wrap64 ((x0.length : Int) - 1)) ≤ (y250.length : Int) then ((labels_Less.f (y250.take ((wrap64 ((x0.length : Int) - 1)) : Int).toNat) x0).bind fun t257 => (if t257 = true then ((labels_Less.f x0 (y250.take ((wrap64 ((x0.length : Int) - 1)) : Int).toNat)).bind fun t262 => (tocsinlaw07_LabelsLess1.j1 k x0 (wrap64 ((x0.length : Int) - 1)) y250 t262)) else (tocsinlaw07_LabelsLess1.j1 k x0 (wrap64 ((x0.length : Int) - 1)) y250 true))) else (none)) else (none))) else (none))
def tocsinlaw07_LabelsLess1.j1 : Nat → List (S31) → Int → List (S31) → Bool → Option (Bool)
  | 0, _, _, _, _ => none
  | k + 1, x0, x3, x4, x33 => if x33 = true then (some false) else (if 0 ≤ x3 then (if x3 < (x0.length : Int) then (if (((rd_T31 x0 x3).f1).size : Int) = 0 then (some true) else (if 0 ≤ (wrap64 ((((rd_T31 x0 x3).f1).size : Int) - 1)) then (if (wrap64 ((((rd_T31 x0 x3).f1).size : Int) - 1)) ≤ (((rd_T31 x0 x3).f1).size : Int) then (if x3 < (x4.length : Int) then ((some (x4.set (x3 : Int).toNat (⟨(rd_T31 x4 x3).f0, ((rd_T31 x0 x3).f1).extract 0 ((wrap64 ((((rd_T31 x0 x3).f1).size : Int) - 1)) : Int).toNat⟩ : S31) : List (S31))).bind fun y265 => ((labels_Less.f y265 x0).bind fun t266 => (if t266 = true then ((labels_Less.f x0 y265).bind fun t267 => (some (!t267))) else (some false)))) else (none)) else (none)) else (none))) else (none)) else (none))
end
def tocsinlaw07_LabelsLess1.f (k : Nat) (l0 : List (S31)) : Option (Bool) := (tocsinlaw07_awake.f k).bind fun t248 => (if t248 = true then ((tocsinlaw07_great.f k l0).bind fun t249 => (if t249 = true then (tocsinlaw07_LabelsLess1.j0 k l0 true) else (tocsinlaw07_LabelsLess1.j0 k l0 ((l0.length : Int) == 0)))) else (some false))
theorem tocsinlaw07_LabelsLess1.mono_l : ∀ k, (∀ y0 y1, LeO (tocsinlaw07_LabelsLess1.j0 k y0 y1) (tocsinlaw07_LabelsLess1.j0 (k + 1) y0 y1)) ∧ (∀ y0 y1 y2 y3, LeO (tocsinlaw07_LabelsLess1.j1 k y0 y1 y2 y3) (tocsinlaw07_LabelsLess1.j1 (k + 1) y0 y1 y2 y3))
  | 0 => ⟨fun _ _ r h => by simp [tocsinlaw07_LabelsLess1.j0] at h, fun _ _ _ _ r h => by simp [tocsinlaw07_LabelsLess1.j1] at h⟩
  | k + 1 => by
    obtain ⟨ih0, ih1⟩ := tocsinlaw07_LabelsLess1.mono_l k
    refine ⟨?_, ?_⟩
    · intro y0 y1
      unfold tocsinlaw07_LabelsLess1.j0
      repeat' first
      | (with_reducible exact ih0 _ _)
      | (with_reducible exact ih1 _ _ _ _)
      | (with_reducible exact tocsinlaw07_awake.mono _)
      | (with_reducible exact tocsinlaw07_great.mono _ _)
      | (with_reducible exact LeO.refl _)
      | (with_reducible exact LeO.none _)
      | (with_reducible refine LeO.ite ?_ ?_)
      | (with_reducible refine LeO.bind ?_ (fun _ => ?_))
      | exact ih0 _ _
      | exact ih1 _ _ _ _
      | exact tocsinlaw07_awake.mono _
      | exact tocsinlaw07_great.mono _ _
      | exact LeO.none _
      | refine LeO.ite ?_ ?_
      | refine LeO.bind ?_ (fun _ => ?_)
    · intro y0 y1 y2 y3
      unfold tocsinlaw07_LabelsLess1.j1
      repeat' first
      | (with_reducible exact ih0 _ _)
      | (with_reducible exact ih1 _ _ _ _)
      | (with_reducible exact tocsinlaw07_awake.mono _)
      | (with_reducible exact tocsinlaw07_great.mono _ _)
      | (with_reducible exact LeO.refl _)
      | (with_reducible exact LeO.none _)
      | (with_reducible refine LeO.ite ?_ ?_)
      | (with_reducible refine LeO.bind ?_ (fun _ => ?_))
      | exact ih0 _ _
      | exact ih1 _ _ _ _
      | exact tocsinlaw07_awake.mono _
      | exact tocsinlaw07_great.mono _ _
      | exact LeO.none _
      | refine LeO.ite ?_ ?_
      | refine LeO.bind ?_ (fun _ => ?_)
theorem tocsinlaw07_LabelsLess1.mono : ∀ a0 k, LeO (tocsinlaw07_LabelsLess1.f k a0) (tocsinlaw07_LabelsLess1.f (k + 1) a0) := by
  intro a0 k
  obtain ⟨ih0, ih1⟩ := tocsinlaw07_LabelsLess1.mono_l k
  unfold tocsinlaw07_LabelsLess1.f
  repeat' first
      | (with_reducible exact ih0 _ _)
      | (with_reducible exact ih1 _ _ _ _)
      | (with_reducible exact tocsinlaw07_awake.mono _)
      | (with_reducible exact tocsinlaw07_great.mono _ _)
      | (with_reducible exact LeO.refl _)
      | (with_reducible exact LeO.none _)
      | (with_reducible refine LeO.ite ?_ ?_)
      | (with_reducible refine LeO.bind ?_ (fun _ => ?_))
      | exact ih0 _ _
      | exact ih1 _ _ _ _
      | exact tocsinlaw07_awake.mono _
      | exact tocsinlaw07_great.mono _ _
      | exact LeO.none _
      | refine LeO.ite ?_ ?_
      | refine LeO.bind ?_ (fun _ => ?_)
set_option maxHeartbeats 8000000 in
set_option maxRecDepth 100000 in
theorem tocsinlaw07_LabelsLess1.calls (k : Nat) (A0 : Option Addr) (c0 : Nat) (l0 : List (S31)) (r : Bool) (w : World) (hr0 : Kd.C k31 w A0 l0.length l0) (hc0 : l0.length ≤ c0) (h : tocsinlaw07_LabelsLess1.f k l0 = some r) :
    Calls Try.prog 7 #[.slice A0 l0.length c0] w fun e w' => e = .returned (.bool r) ∧ Below w.heap.size w w' := by
  have HR0 := Aside0.mk hr0
  have HC0 := Aside0.mk hc0
  clear hr0 hc0
  have HB := Aside0.mk (Below.refl w.heap.size w)
  have H : ((tocsinlaw07_awake.f k).bind fun t248 => (if t248 = true then ((tocsinlaw07_great.f k l0).bind fun t249 => (if t249 = true then (tocsinlaw07_LabelsLess1.j0 k l0 true) else (tocsinlaw07_LabelsLess1.j0 k l0 ((l0.length : Int) == 0)))) else (some false))) = some r := h
  clear h
  replace H := Option.bind_eq_some_iff.mp H
  obtain ⟨t248, A20, H⟩ := H
  replace H : (if t248 = true then ((tocsinlaw07_great.f k l0).bind fun t249 => (if t249 = true then (tocsinlaw07_LabelsLess1.j0 k l0 true) else (tocsinlaw07_LabelsLess1.j0 k l0 ((l0.length : Int) == 0)))) else (some false)) = some r := H
  have A2 := Aside0.mk A20
  clear A20
  by_cases c3 : t248 = true
  · subst c3
    have H1 : ((tocsinlaw07_great.f k l0).bind fun t249 => (if t249 = true then (tocsinlaw07_LabelsLess1.j0 k l0 true) else (tocsinlaw07_LabelsLess1.j0 k l0 ((l0.length : Int) == 0)))) = some r := by rw [if_pos rfl] at H; exact H
    clear H
    have H := H1
    clear H1
    have HC4 := Aside0.mk H
    clear H
    go_enter Try.func7, Try.ntmps7
    go_upto_region 3 with (first | ((with_reducible refine gate_callee (f := 31) rfl ?_); refine goesL_ (some 6) rfl rfl Try.func31 (by kernel_rfl) rfl #[] rfl (by (try simp only [List.map_toArray, List.map_cons, List.map_nil]); first | done | rfl | (simp only [List.length_drop, List.length_take]; rfl)) ?_; (with_reducible refine (tocsinlaw07_awake.calls k  true _ A2.out).mono ?_); rintro e w5 ⟨rfl, hb⟩; refine ⟨_, rfl, ?_⟩; have n0_ := Aside0.mk (below_step (by repeat (first | (with_reducible first | exact HB.out | apply below_alloc | apply pw_below_drewN | apply below_drew1) | exact HB.out)) hb); clear HB; have HB := n0_; clear n0_; (try clear hb); (try clear hb2); (try clear hk); (try clear hi)))
    (try simp only [Act.put, List.setIfInBounds_toArray, List.set_cons_zero, List.set_cons_succ])
    go_cut [14] (fun v14 wc => ∃ (kq : Nat) (x14_3 : Bool), v14 = .bool x14_3 ∧ Aside0 (tocsinlaw07_LabelsLess1.j0 kq l0 x14_3 = some r) ∧ Aside0 (kq ≤ k) ∧ Aside0 (Below w.heap.size w wc))
    case first =>
      have H := HC4.out
      clear HC4
      replace H := Option.bind_eq_some_iff.mp H
      obtain ⟨t249, A60, H⟩ := H
      replace H : (if t249 = true then (tocsinlaw07_LabelsLess1.j0 k l0 true) else (tocsinlaw07_LabelsLess1.j0 k l0 ((l0.length : Int) == 0))) = some r := H
      have A6 := Aside0.mk A60
      clear A60
      by_cases c7 : t249 = true
      · subst c7
        have H1 : (tocsinlaw07_LabelsLess1.j0 k l0 true) = some r := by rw [if_pos rfl] at H; exact H
        clear H
        have H := H1
        clear H1
        have H' := Aside0.mk H
        clear H
        go_wp2_with (first | ((with_reducible refine gate_callee (f := 12) rfl ?_); refine goesL_ (some 9) rfl rfl Try.func12 (by kernel_rfl) rfl #[.slice A0 l0.length c0] rfl (by (try simp only [List.map_toArray, List.map_cons, List.map_nil]); first | done | rfl | (simp only [List.length_drop, List.length_take]; rfl)) ?_; (with_reducible refine (tocsinlaw07_great.calls k _ _ l0 true _ ?side1 ?side2 A6.out).mono ?_); (case side1 => repeat (first | exact (Kd.C_below HR0.out HB.out) | (with_reducible refine Kd.C_alloc ?_ _) | (with_reducible refine Kd.C_drewN ?_ _) | (with_reducible refine Kd.C_drew ?_))); (case side2 => exact HC0.out); rintro e w' ⟨rfl, ⟨nd, rfl⟩⟩; refine ⟨_, rfl, ?_⟩))
        go_meet
        case rel => exact ⟨_, (true), (by first | rfl | (simp; done) | (simp [*]; done)), H', ⟨by first | omega | exact Nat.le_refl _⟩, ⟨by repeat (first | (with_reducible first | exact HB.out | apply below_alloc | apply pw_below_drewN | apply below_drew1) | exact HB.out)⟩⟩
      · replace c7 := Bool.eq_false_iff.mpr c7
        subst c7
        have H1 : (tocsinlaw07_LabelsLess1.j0 k l0 ((l0.length : Int) == 0)) = some r := by rw [if_neg (show ¬ (false = true) by decide)] at H; exact H
        clear H
        have H := H1
        clear H1
        have H' := Aside0.mk H
        clear H
        go_wp2_with (first | ((with_reducible refine gate_callee (f := 12) rfl ?_); refine goesL_ (some 9) rfl rfl Try.func12 (by kernel_rfl) rfl #[.slice A0 l0.length c0] rfl (by (try simp only [List.map_toArray, List.map_cons, List.map_nil]); first | done | rfl | (simp only [List.length_drop, List.length_take]; rfl)) ?_; (with_reducible refine (tocsinlaw07_great.calls k _ _ l0 false _ ?side1 ?side2 A6.out).mono ?_); (case side1 => repeat (first | exact (Kd.C_below HR0.out HB.out) | (with_reducible refine Kd.C_alloc ?_ _) | (with_reducible refine Kd.C_drewN ?_ _) | (with_reducible refine Kd.C_drew ?_))); (case side2 => exact HC0.out); rintro e w' ⟨rfl, ⟨nd, rfl⟩⟩; refine ⟨_, rfl, ?_⟩))
        go_meet
        case rel => exact ⟨_, (((l0.length : Int) == 0)), (by first | rfl | (simp; done) | (simp [*]; done)), H', ⟨by first | omega | exact Nat.le_refl _⟩, ⟨by repeat (first | (with_reducible first | exact HB.out | apply below_alloc | apply pw_below_drewN | apply below_drew1) | exact HB.out)⟩⟩
    case rest =>
      clear HC4
      try clear c1
      try clear p2
      try clear c3
      try clear c7
      obtain ⟨kq, x14_3, rfl, HA, HJ3, HB⟩ := hcut
      cases kq with
      | zero => exact absurd HA.out (by simp [tocsinlaw07_LabelsLess1.j0])
      | succ kj3 =>
        have H := HA.out
        clear HA
        simp only [tocsinlaw07_LabelsLess1.j0] at H
        by_cases c8 : x14_3 = true
        · subst c8
          have H1 : (some true) = some r := by rw [if_pos rfl] at H; exact H
          clear H
          have H := H1
          clear H1
          obtain rfl := Option.some.inj H
          go_wp2
          go_ret
          exact ⟨by first | rfl | (simp [errW_none, errW_some] <;> rfl) | (simp only [Opn.bne_nil, Opn.beq_nil]; done) | (simp [Opn.bne_nil, Opn.beq_nil]; done) | (simp [*, errW_none, errW_some] <;> rfl), by repeat (first | (with_reducible first | exact HB.out | apply below_alloc | apply pw_below_drewN | apply below_drew1) | exact HB.out)⟩
        · replace c8 := Bool.eq_false_iff.mpr c8
          subst c8
          have H1 : (if ([] : List (S31)).length + l0.length < 4398046511104 then ((some (([] : List (S31)) ++ l0 : List (S31))).bind fun y250 => (if 0 ≤ (wrap64 ((l0.length : Int) - 1)) then (if (wrap64 ((l0.length : Int) - 1)) ≤ (y250.length : Int) then ((labels_Less.f (y250.take ((wrap64 ((l0.length : Int) - 1)) : Int).toNat) l0).bind fun t257 => (if t257 = true then ((labels_Less.f l0 (y250.take ((wrap64 ((l0.length : Int) - 1)) : Int).toNat)).bind fun t262 => (tocsinlaw07_LabelsLess1.j1 kj3 l0 (wrap64 ((l0.length : Int) - 1)) y250 t262)) else (tocsinlaw07_LabelsLess1.j1 kj3 l0 (wrap64 ((l0.length : Int) - 1)) y250 true))) else (none)) else (none))) else (none)) = some r := by rw [if_neg (show ¬ (false = true) by decide)] at H; exact H
          clear H
          have H := H1
          clear H1
          by_cases c9 : ([] : List (S31)).length + l0.length < 4398046511104
          · rw [if_pos c9] at H
            have LMc9 := Aside0.mk c9
            clear c9
            obtain ⟨y250, hy250⟩ : ∃ y_ : List (S31), y_ = (([] : List (S31)) ++ l0) := ⟨_, rfl⟩
            replace H : (if 0 ≤ (wrap64 ((l0.length : Int) - 1)) then (if (wrap64 ((l0.length : Int) - 1)) ≤ (y250.length : Int) then ((labels_Less.f (y250.take ((wrap64 ((l0.length : Int) - 1)) : Int).toNat) l0).bind fun t257 => (if t257 = true then ((labels_Less.f l0 (y250.take ((wrap64 ((l0.length : Int) - 1)) : Int).toNat)).bind fun t262 => (tocsinlaw07_LabelsLess1.j1 kj3 l0 (wrap64 ((l0.length : Int) - 1)) y250 t262)) else (tocsinlaw07_LabelsLess1.j1 kj3 l0 (wrap64 ((l0.length : Int) - 1)) y250 true))) else (none)) else (none)) = some r := by first | (rw [hy250]; with_reducible exact H) | (have H2_ := (Option.bind_some _ _).symm.trans H; rw [hy250]; with_reducible exact H2_) | (have H2_ := (Option.bind_some _ _).symm.trans H; with_reducible exact H2_) | with_reducible exact H | (rw [hy250]; exact H) | exact H
            have Ny250 := Aside0.mk hy250
            clear hy250
            have HC10 := Aside0.mk H
            clear H
            go_upto_region 8 with (first | ((with_reducible refine gate_builtin (b := .append) (xs := #[.tmp 18, .tmp 19]) rfl ?_); (try (refine gate_guard (by rfl) ?_; dsimp only)); at_builtin; refine Kd.R_append_rows k31 (w0 := w) w.heap.size rfl (.tmp 18) (.tmp 19) 22 31 (.agg #[(.string ⟨#[]⟩), (.string ⟨#[]⟩)]) 32 rfl Try.underlying22 info31 rfl (by decide) (by omega) (.slice none 0 0) ([] : List (S31)) l0 _ _ _ (fun _ => True) (fun _ => False) rfl rfl ?aO ?aR (fun _ _ h => h) (fun _ h => h.elim) ?aF ?aB ?aS ?aL ?_; (case aR => repeat (first | exact (Kd.C_below HR0.out HB.out) | (with_reducible refine Kd.C_alloc ?_ _) | (with_reducible refine Kd.C_drewN ?_ _) | (with_reducible refine Kd.C_drew ?_))); (case aB => exact (by repeat (first | (with_reducible first | exact HB.out | apply below_alloc | apply pw_below_drewN | apply below_drew1) | exact HB.out))); (case aF => exact (fun _ _ => trivial)); (case aO => exact ((Kd.R_nil _ _ _ _ (fun _ => True)))); (case aS => exact (below_size (by repeat (first | (with_reducible first | exact HB.out | apply below_alloc | apply pw_below_drewN | apply below_drew1) | exact HB.out)))); (case aL => have := LMc9.out; omega); intro v251 w11 ho hb hg hat; rw [← Ny250.out] at ho; have n0_ := Aside0.mk (hb); have n1_ := Aside0.mk (ho); clear HB; have HB := n0_; have HO252 := n1_; clear n0_ n1_; clear ho hb hg hat))
            (try simp only [Act.put, List.setIfInBounds_toArray, List.set_cons_zero, List.set_cons_succ])
            go_cut [33] (fun v33 wc => ∃ (kq : Nat) (x33_9 : Bool), v33 = .bool x33_9 ∧ Aside0 (tocsinlaw07_LabelsLess1.j1 kq l0 (wrap64 ((l0.length : Int) - 1)) y250 x33_9 = some r) ∧ Aside0 (kq ≤ kj3) ∧ Aside0 (Kd.R k31 31 wc w.heap.size (fun _ => True) v251 y250) ∧ Aside0 (Below w.heap.size w wc))
            case first =>
              have H := HC10.out
              clear HC10
              obtain ⟨ji12, hji12⟩ : ∃ j_ : Int, (wrap64 ((l0.length : Int) - 1)) = j_ := ⟨_, rfl⟩
              replace H : (if 0 ≤ (ji12) then (if (ji12) ≤ (y250.length : Int) then ((labels_Less.f (y250.take ((ji12) : Int).toNat) l0).bind fun t257 => (if t257 = true then ((labels_Less.f l0 (y250.take ((ji12) : Int).toNat)).bind fun t262 => (tocsinlaw07_LabelsLess1.j1 kj3 l0 ji12 y250 t262)) else (tocsinlaw07_LabelsLess1.j1 kj3 l0 ji12 y250 true))) else (none)) else (none)) = some r := by first | (rw [hji12] at H; exact H) | (simp only [hji12] at H ⊢; exact H)
              have hji12w : (IntKind.i64.wrap ((l0.length : Int) - 1)) = ji12 := (i64_w _).trans hji12
              by_cases c13 : 0 ≤ (ji12)
              · rw [if_pos c13] at H
                have c13b0 := eq_true c13
                have c13b1 : decide (0 ≤ (ji12)) = true := decide_eq_true c13
                clear c13
                by_cases c14 : (ji12) ≤ (y250.length : Int)
                · rw [if_pos c14] at H
                  have c14b0 := eq_true c14
                  have c14b1 : decide ((ji12) ≤ (y250.length : Int)) = true := decide_eq_true c14
                  clear c14
                  obtain ⟨y253, hy253⟩ : ∃ y_ : List (S31), y_ = (y250.take ((ji12) : Int).toNat) := ⟨_, rfl⟩
                  replace H : ((labels_Less.f y253 l0).bind fun t257 => (if t257 = true then ((labels_Less.f l0 (y250.take ((ji12) : Int).toNat)).bind fun t262 => (tocsinlaw07_LabelsLess1.j1 kj3 l0 ji12 y250 t262)) else (tocsinlaw07_LabelsLess1.j1 kj3 l0 ji12 y250 true))) = some r := by first | (rw [hy253]; with_reducible exact H) | (have H2_ := (Option.bind_some _ _).symm.trans H; rw [hy253]; with_reducible exact H2_) | (have H2_ := (Option.bind_some _ _).symm.trans H; with_reducible exact H2_) | with_reducible exact H | (rw [hy253]; exact H) | exact H
                  have Ny253 := Aside0.mk hy253
                  clear hy253
                  replace H := Option.bind_eq_some_iff.mp H
                  obtain ⟨t257, A150, H⟩ := H
                  replace H : (if t257 = true then ((labels_Less.f l0 (y250.take ((ji12) : Int).toNat)).bind fun t262 => (tocsinlaw07_LabelsLess1.j1 kj3 l0 ji12 y250 t262)) else (tocsinlaw07_LabelsLess1.j1 kj3 l0 ji12 y250 true)) = some r := H
                  have A15 := Aside0.mk A150
                  clear A150
                  by_cases c16 : t257 = true
                  · subst c16
                    have H1 : ((labels_Less.f l0 (y250.take ((ji12) : Int).toNat)).bind fun t262 => (tocsinlaw07_LabelsLess1.j1 kj3 l0 ji12 y250 t262)) = some r := by rw [if_pos rfl] at H; exact H
                    clear H
                    have H := H1
                    clear H1
                    have c17b0 := eq_true (of_decide_eq_true (by first | (with_reducible assumption) | assumption) : 0 ≤ (ji12))
                    have c18b0 := eq_true (of_decide_eq_true (by first | (with_reducible assumption) | assumption) : (ji12) ≤ (y250.length : Int))
                    obtain ⟨y258, hy258⟩ : ∃ y_ : List (S31), y_ = (y250.take ((ji12) : Int).toNat) := ⟨_, rfl⟩
                    replace H : ((labels_Less.f l0 y258).bind fun t262 => (tocsinlaw07_LabelsLess1.j1 kj3 l0 ji12 y250 t262)) = some r := by first | (rw [hy258]; with_reducible exact H) | (have H2_ := (Option.bind_some _ _).symm.trans H; rw [hy258]; with_reducible exact H2_) | (have H2_ := (Option.bind_some _ _).symm.trans H; with_reducible exact H2_) | with_reducible exact H | (rw [hy258]; exact H) | exact H
                    have Ny258 := Aside0.mk hy258
                    obtain rfl : y253 = y258 := Ny253.out.trans Ny258.out.symm
                    clear hy258
                    replace H := Option.bind_eq_some_iff.mp H
                    obtain ⟨t262, A190, H⟩ := H
                    replace H : (tocsinlaw07_LabelsLess1.j1 kj3 l0 ji12 y250 t262) = some r := H
                    have A19 := Aside0.mk A190
                    clear A190
                    have H' := Aside0.mk H
                    clear H
                    obtain ⟨Ao21, co21, eo21⟩ := Kd.R_slice HO252.out
                    subst eo21
                    have q20 : ((ji12) : Int) ≤ ((y250.length : Int) : Int) := of_decide_eq_true (by first | (with_reducible assumption) | assumption)
                    obtain ⟨i020, hi020, _, hsz20, _⟩ := info_parts info31
                    have hroom20 : y250.length ≤ co21 := (Kd.R_reads' HO252.out).2.1
                    have hC20 : Kd.C k31 _ Ao21 y250.length y250 := (Kd.R_reads' HO252.out).2.2
                    have hcut20 := cut_to (P := Try.prog) 22 31 .i64 Try.underlying22 hi020 Ao21 y250.length co21 (ji12) (of_decide_eq_true (by first | (with_reducible assumption) | assumption)) q20 hroom20
                    have hr20 := Kd.C_take (m := ((ji12) : Int).toNat) hC20 (by omega)
                    have hy20 : y253.length = ((ji12) : Int).toNat := (by rw [Ny253.out, List.length_take]; omega)
                    rw [← Ny253.out] at hr20
                    rw [← hy20] at hcut20
                    have HR256 := Aside0.mk hr20
                    have HC256 := Aside0.mk (show y253.length ≤ co21 from by omega)
                    clear hr20 hC20 hroom20 hi020 hsz20
                    have KY20 := Aside0.mk hy20
                    clear hy20
                    have KL20 := Aside0.mk (show ((ji12) : Int).toNat ≤ y250.length from by omega)
                    replace q20 := eq_true q20
                    go_wp2_with (first | ((with_reducible refine gate_callee (f := 13) rfl ?_); refine goesL_ (some 25) rfl rfl Try.func13 (by kernel_rfl) rfl #[.slice Ao21 y253.length co21, .slice A0 l0.length c0] rfl (by (try simp only [List.map_toArray, List.map_cons, List.map_nil]); first | done | rfl | (simp only [List.length_drop, List.length_take]; rfl)) ?_; (with_reducible refine (labels_Less.calls _ _ y253 _ _ l0 true _ ?side1 ?side2 ?side3 ?side4 A15.out).mono ?_); (case side1 => repeat (first | exact (by repeat (first | (with_reducible exact HR256.out) | (with_reducible refine Kd.C_alloc ?_ _) | (with_reducible refine Kd.C_drewN ?_ _) | (with_reducible refine Kd.C_drew ?_) | exact HR256.out)) | (with_reducible refine Kd.C_alloc ?_ _) | (with_reducible refine Kd.C_drewN ?_ _) | (with_reducible refine Kd.C_drew ?_))); (case side2 => exact HC256.out); (case side3 => repeat (first | exact (Kd.C_below HR0.out HB.out) | (with_reducible refine Kd.C_alloc ?_ _) | (with_reducible refine Kd.C_drewN ?_ _) | (with_reducible refine Kd.C_drew ?_))); (case side4 => exact HC0.out); rintro e w22 ⟨rfl, hb⟩; refine ⟨_, rfl, ?_⟩; have n0_ := Aside0.mk (Kd.R_below (by (with_reducible repeat (first | apply Kd.R_alloc | apply Kd.R_drewN | apply Kd.R_drew)); exact HO252.out) hb); have n1_ := Aside0.mk (Kd.C_below (by repeat (first | (with_reducible exact HR256.out) | (with_reducible refine Kd.C_alloc ?_ _) | (with_reducible refine Kd.C_drewN ?_ _) | (with_reducible refine Kd.C_drew ?_) | exact HR256.out)) hb); have n2_ := Aside0.mk (below_step (by repeat (first | (with_reducible first | exact HB.out | apply below_alloc | apply pw_below_drewN | apply below_drew1) | exact HB.out)) hb); clear HO252; clear HR256; clear HB; have HO252 := n0_; have HR256 := n1_; have HB := n2_; clear n0_ n1_ n2_; (try clear hb); (try clear hb2); (try clear hk); (try clear hi); have q23 : ((ji12) : Int) ≤ ((y250.length : Int) : Int) := of_decide_eq_true (by first | (with_reducible assumption) | assumption); obtain ⟨i023, hi023, _, hsz23, _⟩ := info_parts info31; have hroom23 : y250.length ≤ co21 := (Kd.R_reads' HO252.out).2.1; have hC23 : Kd.C k31 _ Ao21 y250.length y250 := (Kd.R_reads' HO252.out).2.2; have hcut23 := cut_to (P := Try.prog) 22 31 .i64 Try.underlying22 hi023 Ao21 y250.length co21 (ji12) (of_decide_eq_true (by first | (with_reducible assumption) | assumption)) q23 hroom23; have hr23 := Kd.C_take (m := ((ji12) : Int).toNat) hC23 (by omega); have hy23 : y253.length = ((ji12) : Int).toNat := (by rw [Ny258.out, List.length_take]; omega); rw [← Ny258.out] at hr23; rw [← hy23] at hcut23; have HR261 := Aside0.mk hr23; have HC261 := Aside0.mk (show y253.length ≤ co21 from by omega); clear hr23 hC23 hroom23 hi023 hsz23; have KY23 := Aside0.mk hy23; clear hy23; have KL23 := Aside0.mk (show ((ji12) : Int).toNat ≤ y250.length from by omega); replace q23 := eq_true q23) | (go_at_call 13; (with_reducible refine (labels_Less.calls _ _ l0 _ _ y253 t262 _ ?side1 ?side2 ?side3 ?side4 A19.out).mono ?_); (case side1 => repeat (first | exact (Kd.C_below HR0.out HB.out) | (with_reducible refine Kd.C_alloc ?_ _) | (with_reducible refine Kd.C_drewN ?_ _) | (with_reducible refine Kd.C_drew ?_))); (case side2 => exact HC0.out); (case side3 => repeat (first | exact (by repeat (first | (with_reducible exact HR261.out) | (with_reducible refine Kd.C_alloc ?_ _) | (with_reducible refine Kd.C_drewN ?_ _) | (with_reducible refine Kd.C_drew ?_) | exact HR261.out)) | (with_reducible refine Kd.C_alloc ?_ _) | (with_reducible refine Kd.C_drewN ?_ _) | (with_reducible refine Kd.C_drew ?_))); (case side4 => exact HC261.out); rintro e w24 ⟨rfl, hb⟩; have n0_ := Aside0.mk (Kd.R_below (by (with_reducible repeat (first | apply Kd.R_alloc | apply Kd.R_drewN | apply Kd.R_drew)); exact HO252.out) hb); have n1_ := Aside0.mk (Kd.C_below (by repeat (first | (with_reducible exact HR256.out) | (with_reducible refine Kd.C_alloc ?_ _) | (with_reducible refine Kd.C_drewN ?_ _) | (with_reducible refine Kd.C_drew ?_) | exact HR256.out)) hb); have n2_ := Aside0.mk (Kd.C_below (by repeat (first | (with_reducible exact HR261.out) | (with_reducible refine Kd.C_alloc ?_ _) | (with_reducible refine Kd.C_drewN ?_ _) | (with_reducible refine Kd.C_drew ?_) | exact HR261.out)) hb); have n3_ := Aside0.mk (below_step (by repeat (first | (with_reducible first | exact HB.out | apply below_alloc | apply pw_below_drewN | apply below_drew1) | exact HB.out)) hb); clear HO252; clear HR256; clear HR261; clear HB; have HO252 := n0_; have HR256 := n1_; have HR261 := n2_; have HB := n3_; clear n0_ n1_ n2_ n3_; (try clear hb); (try clear hb2); (try clear hk); (try clear hi)))
                    try subst hji12
                    go_meet
                    case rel => exact ⟨_, (t262), (by first | rfl | (simp; done) | (simp [*]; done)), H', ⟨by have := HJ3.out; first | omega | exact Nat.le_refl _⟩, ⟨by (with_reducible repeat (first | apply Kd.R_alloc | apply Kd.R_drewN | apply Kd.R_drew)); exact HO252.out⟩, ⟨by repeat (first | (with_reducible first | exact HB.out | apply below_alloc | apply pw_below_drewN | apply below_drew1) | exact HB.out)⟩⟩
                  · replace c16 := Bool.eq_false_iff.mpr c16
                    subst c16
                    have H1 : (tocsinlaw07_LabelsLess1.j1 kj3 l0 ji12 y250 true) = some r := by rw [if_neg (show ¬ (false = true) by decide)] at H; exact H
                    clear H
                    have H := H1
                    clear H1
                    have H' := Aside0.mk H
                    clear H
                    obtain ⟨Ao26, co26, eo26⟩ := Kd.R_slice HO252.out
                    subst eo26
                    have q25 : ((ji12) : Int) ≤ ((y250.length : Int) : Int) := of_decide_eq_true (by first | (with_reducible assumption) | assumption)
                    obtain ⟨i025, hi025, _, hsz25, _⟩ := info_parts info31
                    have hroom25 : y250.length ≤ co26 := (Kd.R_reads' HO252.out).2.1
                    have hC25 : Kd.C k31 _ Ao26 y250.length y250 := (Kd.R_reads' HO252.out).2.2
                    have hcut25 := cut_to (P := Try.prog) 22 31 .i64 Try.underlying22 hi025 Ao26 y250.length co26 (ji12) (of_decide_eq_true (by first | (with_reducible assumption) | assumption)) q25 hroom25
                    have hr25 := Kd.C_take (m := ((ji12) : Int).toNat) hC25 (by omega)
                    have hy25 : y253.length = ((ji12) : Int).toNat := (by rw [Ny253.out, List.length_take]; omega)
                    rw [← Ny253.out] at hr25
                    rw [← hy25] at hcut25
                    have HR256 := Aside0.mk hr25
                    have HC256 := Aside0.mk (show y253.length ≤ co26 from by omega)
                    clear hr25 hC25 hroom25 hi025 hsz25
                    have KY25 := Aside0.mk hy25
                    clear hy25
                    have KL25 := Aside0.mk (show ((ji12) : Int).toNat ≤ y250.length from by omega)
                    replace q25 := eq_true q25
                    go_wp2_with (first | ((with_reducible refine gate_callee (f := 13) rfl ?_); refine goesL_ (some 25) rfl rfl Try.func13 (by kernel_rfl) rfl #[.slice Ao26 y253.length co26, .slice A0 l0.length c0] rfl (by (try simp only [List.map_toArray, List.map_cons, List.map_nil]); first | done | rfl | (simp only [List.length_drop, List.length_take]; rfl)) ?_; (with_reducible refine (labels_Less.calls _ _ y253 _ _ l0 false _ ?side1 ?side2 ?side3 ?side4 A15.out).mono ?_); (case side1 => repeat (first | exact (by repeat (first | (with_reducible exact HR256.out) | (with_reducible refine Kd.C_alloc ?_ _) | (with_reducible refine Kd.C_drewN ?_ _) | (with_reducible refine Kd.C_drew ?_) | exact HR256.out)) | (with_reducible refine Kd.C_alloc ?_ _) | (with_reducible refine Kd.C_drewN ?_ _) | (with_reducible refine Kd.C_drew ?_))); (case side2 => exact HC256.out); (case side3 => repeat (first | exact (Kd.C_below HR0.out HB.out) | (with_reducible refine Kd.C_alloc ?_ _) | (with_reducible refine Kd.C_drewN ?_ _) | (with_reducible refine Kd.C_drew ?_))); (case side4 => exact HC0.out); rintro e w27 ⟨rfl, hb⟩; refine ⟨_, rfl, ?_⟩; have n0_ := Aside0.mk (Kd.R_below (by (with_reducible repeat (first | apply Kd.R_alloc | apply Kd.R_drewN | apply Kd.R_drew)); exact HO252.out) hb); have n1_ := Aside0.mk (Kd.C_below (by repeat (first | (with_reducible exact HR256.out) | (with_reducible refine Kd.C_alloc ?_ _) | (with_reducible refine Kd.C_drewN ?_ _) | (with_reducible refine Kd.C_drew ?_) | exact HR256.out)) hb); have n2_ := Aside0.mk (below_step (by repeat (first | (with_reducible first | exact HB.out | apply below_alloc | apply pw_below_drewN | apply below_drew1) | exact HB.out)) hb); clear HO252; clear HR256; clear HB; have HO252 := n0_; have HR256 := n1_; have HB := n2_; clear n0_ n1_ n2_; (try clear hb); (try clear hb2); (try clear hk); (try clear hi)))
                    try subst hji12
                    go_meet
                    case rel => exact ⟨_, (true), (by first | rfl | (simp; done) | (simp [*]; done)), H', ⟨by have := HJ3.out; first | omega | exact Nat.le_refl _⟩, ⟨by (with_reducible repeat (first | apply Kd.R_alloc | apply Kd.R_drewN | apply Kd.R_drew)); exact HO252.out⟩, ⟨by repeat (first | (with_reducible first | exact HB.out | apply below_alloc | apply pw_below_drewN | apply below_drew1) | exact HB.out)⟩⟩
                · rw [if_neg c14] at H
                  exact absurd H (by simp)
              · rw [if_neg c13] at H
                exact absurd H (by simp)
            case rest =>
              clear HC10
              try clear c1
              try clear p2
              try clear q2
              try clear c3
              try clear p6
              try clear c7
              try clear c8
              try clear c9
              try clear c12
              try clear c13
              try clear c13b0
              try clear c13b1
              try clear c14
              try clear c14b0
              try clear c14b1
              try clear c16
              try clear c17
              try clear c17b0
              try clear c18
              try clear c18b0
              try clear q20
              try clear q23
              try clear q25
              try clear p2
              try clear q20
              try clear q23
              try clear q25
              obtain ⟨kq, x33_9, rfl, HA, HJ9, HO_4, HB⟩ := hcut
              cases kq with
              | zero => exact absurd HA.out (by simp [tocsinlaw07_LabelsLess1.j1])
              | succ kj9 =>
                have H := HA.out
                clear HA
                simp only [tocsinlaw07_LabelsLess1.j1] at H
                by_cases c28 : x33_9 = true
                · subst c28
                  have H1 : (some false) = some r := by rw [if_pos rfl] at H; exact H
                  clear H
                  have H := H1
                  clear H1
                  obtain rfl := Option.some.inj H
                  go_wp2
                  go_ret
                  exact ⟨by first | rfl | (simp [errW_none, errW_some] <;> rfl) | (simp only [Opn.bne_nil, Opn.beq_nil]; done) | (simp [Opn.bne_nil, Opn.beq_nil]; done) | (simp [*, errW_none, errW_some] <;> rfl), by repeat (first | (with_reducible first | exact HB.out | apply below_alloc | apply pw_below_drewN | apply below_drew1) | exact HB.out)⟩
                · replace c28 := Bool.eq_false_iff.mpr c28
                  subst c28
                  have H1 : (if 0 ≤ (wrap64 ((l0.length : Int) - 1)) then (if (wrap64 ((l0.length : Int) - 1)) < (l0.length : Int) then (if (((rd_T31 l0 (wrap64 ((l0.length : Int) - 1))).f1).size : Int) = 0 then (some true) else (if 0 ≤ (wrap64 ((((rd_T31 l0 (wrap64 ((l0.length : Int) - 1))).f1).size : Int) - 1)) then (if (wrap64 ((((rd_T31 l0 (wrap64 ((l0.length : Int) - 1))).f1).size : Int) - 1)) ≤ (((rd_T31 l0 (wrap64 ((l0.length : Int) - 1))).f1).size : Int) then (if (wrap64 ((l0.length : Int) - 1)) < (y250.length : Int) then ((some (y250.set ((wrap64 ((l0.length : Int) - 1)) : Int).toNat (⟨(rd_T31 y250 (wrap64 ((l0.length : Int) - 1))).f0, ((rd_T31 l0 (wrap64 ((l0.length : Int) - 1))).f1).extract 0 ((wrap64 ((((rd_T31 l0 (wrap64 ((l0.length : Int) - 1))).f1).size : Int) - 1)) : Int).toNat⟩ : S31) : List (S31))).bind fun y265 => ((labels_Less.f y265 l0).bind fun t266 => (if t266 = true then ((labels_Less.f l0 y265).bind fun t267 => (some (!t267))) else (some false)))) else (none)) else (none)) else (none))) else (none)) else (none)) = some r := by rw [if_neg (show ¬ (false = true) by decide)] at H; exact H
                  clear H
                  have H := H1
                  clear H1
                  obtain ⟨ji29, hji29⟩ : ∃ j_ : Int, (wrap64 ((l0.length : Int) - 1)) = j_ := ⟨_, rfl⟩
                  replace H : (if 0 ≤ (ji29) then (if (ji29) < (l0.length : Int) then (if (((rd_T31 l0 (ji29)).f1).size : Int) = 0 then (some true) else (if 0 ≤ (wrap64 ((((rd_T31 l0 (ji29)).f1).size : Int) - 1)) then (if (wrap64 ((((rd_T31 l0 (ji29)).f1).size : Int) - 1)) ≤ (((rd_T31 l0 (ji29)).f1).size : Int) then (if (ji29) < (y250.length : Int) then ((some (y250.set ((ji29) : Int).toNat (⟨(rd_T31 y250 (ji29)).f0, ((rd_T31 l0 (ji29)).f1).extract 0 ((wrap64 ((((rd_T31 l0 (ji29)).f1).size : Int) - 1)) : Int).toNat⟩ : S31) : List (S31))).bind fun y265 => ((labels_Less.f y265 l0).bind fun t266 => (if t266 = true then ((labels_Less.f l0 y265).bind fun t267 => (some (!t267))) else (some false)))) else (none)) else (none)) else (none))) else (none)) else (none)) = some r := by first | (rw [hji29] at H; exact H) | (simp only [hji29] at H ⊢; exact H)
                  have hji29w : (IntKind.i64.wrap ((l0.length : Int) - 1)) = ji29 := (i64_w _).trans hji29
                  by_cases c30 : 0 ≤ (ji29)
                  · rw [if_pos c30] at H
                    have c30b0 : decide (0 ≤ (ji29)) = true := decide_eq_true c30
                    clear c30
                    by_cases c31 : (ji29) < (l0.length : Int)
                    · rw [if_pos c31] at H
                      have c31b0 : decide ((ji29) < (l0.length : Int)) = true := decide_eq_true c31
                      clear c31
                      by_cases c32 : (((rd_T31 l0 (ji29)).f1).size : Int) = 0
                      · rw [if_pos c32] at H
                        have c32b0 : ((((rd_T31 l0 (ji29)).f1).size : Int) == 0) = true := beq_iff_eq.mpr c32
                        have c32b1 : ((((rd_T31 l0 (ji29)).f1).size : Int) != 0) = false := bne_eq_false_iff_eq.mpr c32
                        clear c32
                        obtain rfl := Option.some.inj H
                        have p263 : 0 ≤ ((ji29) : Int) := of_decide_eq_true (by first | (with_reducible assumption) | assumption)
                        have q263 : (ji29) < (l0.length : Int) := of_decide_eq_true (by first | (with_reducible assumption) | assumption)
                        obtain ⟨ad263, e263, hx263_0, hx263_1⟩ := at_T31 HR0.out (ji29) p263 q263
                        cases e263
                        replace hx263_0 := (HB.out.cell (World.block_lt_of_cell? w _ hx263_0)).trans hx263_0
                        replace hx263_1 := (HB.out.cell (World.block_lt_of_cell? w _ hx263_1)).trans hx263_1
                        replace p263 := eq_true p263
                        replace q263 := eq_true q263
                        go_wp2
                        go_ret
                        exact ⟨by first | rfl | (simp [errW_none, errW_some] <;> rfl) | (simp only [Opn.bne_nil, Opn.beq_nil]; done) | (simp [Opn.bne_nil, Opn.beq_nil]; done) | (simp only [← hji29]; first | rfl | (simp [errW_none, errW_some] <;> rfl)) | (simp [*, errW_none, errW_some] <;> rfl), by repeat (first | (with_reducible first | exact HB.out | apply below_alloc | apply pw_below_drewN | apply below_drew1) | exact HB.out)⟩
                      · rw [if_neg c32] at H
                        have c32b0 : ((((rd_T31 l0 (ji29)).f1).size : Int) == 0) = false := beq_eq_false_iff_ne.mpr c32
                        have c32b1 : ((((rd_T31 l0 (ji29)).f1).size : Int) != 0) = true := bne_iff_ne.mpr c32
                        obtain ⟨ji33, hji33⟩ : ∃ j_ : Int, (wrap64 ((((rd_T31 l0 (ji29)).f1).size : Int) - 1)) = j_ := ⟨_, rfl⟩
                        replace H : (if 0 ≤ (ji33) then (if (ji33) ≤ (((rd_T31 l0 (ji29)).f1).size : Int) then (if (ji29) < (y250.length : Int) then ((some (y250.set ((ji29) : Int).toNat (⟨(rd_T31 y250 (ji29)).f0, ((rd_T31 l0 (ji29)).f1).extract 0 ((ji33) : Int).toNat⟩ : S31) : List (S31))).bind fun y265 => ((labels_Less.f y265 l0).bind fun t266 => (if t266 = true then ((labels_Less.f l0 y265).bind fun t267 => (some (!t267))) else (some false)))) else (none)) else (none)) else (none)) = some r := by first | (rw [hji33] at H; exact H) | (simp only [hji33] at H ⊢; exact H)
                        have hji33w : (IntKind.i64.wrap ((((rd_T31 l0 (ji29)).f1).size : Int) - 1)) = ji33 := (i64_w _).trans hji33
                        by_cases c34 : 0 ≤ (ji33)
                        · rw [if_pos c34] at H
                          have c34b0 := eq_true c34
                          have c34b1 : decide (0 ≤ (ji33)) = true := decide_eq_true c34
                          clear c34
                          by_cases c35 : (ji33) ≤ (((rd_T31 l0 (ji29)).f1).size : Int)
                          · rw [if_pos c35] at H
                            have c35b0 := eq_true c35
                            have c35b1 : decide ((ji33) ≤ (((rd_T31 l0 (ji29)).f1).size : Int)) = true := decide_eq_true c35
                            clear c35
                            by_cases c36 : (ji29) < (y250.length : Int)
                            · rw [if_pos c36] at H
                              have c36b0 : decide ((ji29) < (y250.length : Int)) = true := decide_eq_true c36
                              clear c36
                              obtain ⟨y265, hy265⟩ : ∃ y_ : List (S31), y_ = (y250.set ((ji29) : Int).toNat (⟨(rd_T31 y250 (ji29)).f0, ((rd_T31 l0 (ji29)).f1).extract 0 ((ji33) : Int).toNat⟩ : S31)) := ⟨_, rfl⟩
                              replace H : ((labels_Less.f y265 l0).bind fun t266 => (if t266 = true then ((labels_Less.f l0 y265).bind fun t267 => (some (!t267))) else (some false))) = some r := by first | (rw [hy265]; with_reducible exact H) | (have H2_ := (Option.bind_some _ _).symm.trans H; rw [hy265]; with_reducible exact H2_) | (have H2_ := (Option.bind_some _ _).symm.trans H; with_reducible exact H2_) | with_reducible exact H | (rw [hy265]; exact H) | exact H
                              have Ny265 := Aside0.mk hy265
                              clear hy265
                              replace H := Option.bind_eq_some_iff.mp H
                              obtain ⟨t266, A380, H⟩ := H
                              replace H : (if t266 = true then ((labels_Less.f l0 y265).bind fun t267 => (some (!t267))) else (some false)) = some r := H
                              have A38 := Aside0.mk A380
                              clear A380
                              by_cases c39 : t266 = true
                              · subst c39
                                have H1 : ((labels_Less.f l0 y265).bind fun t267 => (some (!t267))) = some r := by rw [if_pos rfl] at H; exact H
                                clear H
                                have H := H1
                                clear H1
                                replace H := Option.bind_eq_some_iff.mp H
                                obtain ⟨t267, A400, H⟩ := H
                                replace H : (some (!t267)) = some r := H
                                have A40 := Aside0.mk A400
                                clear A400
                                obtain rfl := Option.some.inj H
                                have p263 : 0 ≤ ((ji29) : Int) := of_decide_eq_true (by first | (with_reducible assumption) | assumption)
                                have q263 : (ji29) < (l0.length : Int) := of_decide_eq_true (by first | (with_reducible assumption) | assumption)
                                obtain ⟨ad263, e263, hx263_0, hx263_1⟩ := at_T31 HR0.out (ji29) p263 q263
                                cases e263
                                replace hx263_0 := (HB.out.cell (World.block_lt_of_cell? w _ hx263_0)).trans hx263_0
                                replace hx263_1 := (HB.out.cell (World.block_lt_of_cell? w _ hx263_1)).trans hx263_1
                                replace p263 := eq_true p263
                                replace q263 := eq_true q263
                                have p264 : 0 ≤ ((ji29) : Int) := of_decide_eq_true (by first | (with_reducible assumption) | assumption)
                                have q264 : (ji29) < (l0.length : Int) := of_decide_eq_true (by first | (with_reducible assumption) | assumption)
                                obtain ⟨ad264, e264, hx264_0, hx264_1⟩ := at_T31 HR0.out (ji29) p264 q264
                                obtain rfl : ad263 = ad264 := (by injection e264)
                                replace hx264_0 := (HB.out.cell (World.block_lt_of_cell? w _ hx264_0)).trans hx264_0
                                replace hx264_1 := (HB.out.cell (World.block_lt_of_cell? w _ hx264_1)).trans hx264_1
                                replace p264 := eq_true p264
                                replace q264 := eq_true q264
                                have p37 : 0 ≤ ((ji29) : Int) := of_decide_eq_true (by first | (with_reducible assumption) | assumption)
                                have q37 : ((ji29) : Int) < ((y250.length : Int) : Int) := of_decide_eq_true (by first | (with_reducible assumption) | assumption)
                                obtain ⟨go37, co37, eo37, gb37, gl37, cl37, HG37⟩ := Kd.R_form HO_4.out (by omega)
                                (first | cases eo37 | (injection eo37 with ea_ en_ ec_; (first | subst ea_ | (injection ea_ with ea_; subst ea_)); subst ec_; clear en_))
                                have GB37 := Aside0.mk gb37
                                have GG37 := Aside0.mk HG37
                                clear gb37 gl37 HG37
                                obtain ⟨ce37, hcl37, hM37, hcc37, hfr37⟩ := Kd.R_elem HO_4.out z31 ((ji29) : Int) p37 q37
                                obtain rfl := k31_openM hM37
                                have hx37_0 : wc.cell? ⟨go37, ((ji29) : Int).toNat * 2, none⟩ = some (.string ((rd_T31 y250 (ji29)).f0)) := hcc37 0 _ rfl
                                have hx37_1 : wc.cell? ⟨go37, ((ji29) : Int).toNat * 2 + 1, none⟩ = some (.string ((rd_T31 y250 (ji29)).f1)) := hcc37 1 _ rfl
                                have hf37_0 : wc.frozen? ⟨go37, ((ji29) : Int).toNat * 2, none⟩ = false := hfr37 0
                                have hf37_1 : wc.frozen? ⟨go37, ((ji29) : Int).toNat * 2 + 1, none⟩ = false := hfr37 1
                                clear hcl37 hcc37 hfr37 hM37
                                replace p37 := eq_true p37
                                replace q37 := eq_true q37
                                have HX41 := Aside0.mk (show Kd.R k31 31 wc w.heap.size (fun _ => True) (.slice (some ⟨go37, 0, none⟩) y250.length co37) y250 from (by (with_reducible repeat (first | apply Kd.R_alloc | apply Kd.R_drewN | apply Kd.R_drew)); exact HO_4.out))
                                obtain ⟨ce41, hcl41, hM41, hcc41, hfr41⟩ := Kd.R_elem HX41.out z31 ((ji29) : Int) (of_decide_eq_true (by first | (with_reducible assumption) | assumption)) (by have h_ : ((ji29) : Int) < ((y250.length : Int) : Int) := of_decide_eq_true (by first | (with_reducible assumption) | assumption); first | exact h_ | (have e_ := (Kd.R_reads' HO_4.out).1; omega) | simpa using h_)
                                obtain rfl := k31_openM hM41
                                have HP41 := Kd.R_seg HX41.out ((ji29) : Int) (of_decide_eq_true (by first | (with_reducible assumption) | assumption)) (by have h_ : ((ji29) : Int) < ((y250.length : Int) : Int) := of_decide_eq_true (by first | (with_reducible assumption) | assumption); first | exact h_ | (have e_ := (Kd.R_reads' HO_4.out).1; omega) | simpa using h_) (seg := [.string (((rd_T31 l0 (ji29)).f1).extract 0 ((ji33) : Int).toNat)]) (j := 1) hcl41 hcc41 (show 2 ≤ 2 from by decide) (x' := (⟨(rd_T31 y250 (ji29)).f0, ((rd_T31 l0 (ji29)).f1).extract 0 ((ji33) : Int).toNat⟩ : S31)) (k31_mkM _ _ _ (⟨(rd_T31 y250 (ji29)).f0, ((rd_T31 l0 (ji29)).f1).extract 0 ((ji33) : Int).toNat⟩ : S31) ) (fun _ hk => hk)
                                have hx41_1 := hcc41 1 _ rfl
                                (try simp only [show (k31).sz = 2 from rfl, Nat.mul_one, Nat.add_zero] at hx41_1)
                                have hf41_1 := hfr41 1
                                (try simp only [show (k31).sz = 2 from rfl, Nat.mul_one, Nat.add_zero] at hf41_1)
                                clear hcl41 hcc41 hfr41 hM41
                                go_wp2_with (first | ((with_reducible refine gate_store (t := 9) (p := 53) rfl ?_); refine store_event (t := 9) (p := 53) (v := ?vo_w42) (w1 := (wc.setCell ⟨go37, ((ji29) : Int).toNat * 2 + 1, none⟩ (.string (((rd_T31 l0 (ji29)).f1).extract 0 ((ji33) : Int).toNat)))) ?hg ?ho ?hn ?hr ?_; (case ho => rfl); (case hg => rfl); (case hn => rfl); (case hr => first | (go_simp; done) | (go_simp; rfl)); intro w42 hw; have hg : wc.grownBy w42 (some go37) := (by rw [hw]; exact HP41.2); have hp_ : Kd.R k31 31 w42 w.heap.size (fun _ => True) (.slice (some ⟨go37, 0, none⟩) y250.length co37) y265 := (by rw [hw, Ny265.out]; exact HP41.1); clear HP41; have n0_ := Aside0.mk (hp_); have n1_ := Aside0.mk ((by rw [hw]; exact below_set (HB.out) GB37.out : Below w.heap.size w w42)); clear HO_4; clear HB; have HO_4 := n0_; have HB := n1_; clear n0_ n1_; clear hg hw hp_) | ((with_reducible refine gate_callee (f := 13) rfl ?_); refine goesL_ (some 56) rfl rfl Try.func13 (by kernel_rfl) rfl #[.slice (some ⟨go37, 0, none⟩) y265.length co37, .slice (some ad263) l0.length c0] rfl (by (try simp only [List.map_toArray, List.map_cons, List.map_nil]); first | done | (rw [show y265.length = y250.length from (Kd.R_reads' HO_4.out).1.symm] <;> rfl) | rfl | (simp only [List.length_drop, List.length_take]; rfl)) ?_; (with_reducible refine (labels_Less.calls _ _ y265 _ _ l0 true _ ?side1 ?side2 ?side3 ?side4 A38.out).mono ?_); (case side1 => repeat (first | exact (Kd.R_reads' HO_4.out).2.2 | (with_reducible refine Kd.C_alloc ?_ _) | (with_reducible refine Kd.C_drewN ?_ _) | (with_reducible refine Kd.C_drew ?_))); (case side2 => rw [show y265.length = y250.length from (Kd.R_reads' HO_4.out).1.symm]; exact (Kd.R_reads' HO_4.out).2.1); (case side3 => repeat (first | exact (Kd.C_below HR0.out HB.out) | (with_reducible refine Kd.C_alloc ?_ _) | (with_reducible refine Kd.C_drewN ?_ _) | (with_reducible refine Kd.C_drew ?_))); (case side4 => exact HC0.out); rintro e w43 ⟨rfl, hb⟩; refine ⟨_, rfl, ?_⟩; have n0_ := Aside0.mk (Kd.R_below (by (with_reducible repeat (first | apply Kd.R_alloc | apply Kd.R_drewN | apply Kd.R_drew)); exact HO_4.out) hb); have n1_ := Aside0.mk (below_step (by repeat (first | (with_reducible first | exact HB.out | apply below_alloc | apply pw_below_drewN | apply below_drew1) | exact HB.out)) hb); clear HO_4; clear HB; have HO_4 := n0_; have HB := n1_; clear n0_ n1_; (try clear hb); (try clear hb2); (try clear hk); (try clear hi)) | (go_at_call 13; refine calls_of_args (args' := #[.slice (some ad263) l0.length c0, .slice (some ⟨go37, 0, none⟩) y265.length co37]) (by first | (rw [show y265.length = y250.length from (Kd.R_reads' HO_4.out).1.symm] <;> rfl) | rfl) ?_; (with_reducible refine (labels_Less.calls _ _ l0 _ _ y265 t267 _ ?side1 ?side2 ?side3 ?side4 A40.out).mono ?_); (case side1 => repeat (first | exact (Kd.C_below HR0.out HB.out) | (with_reducible refine Kd.C_alloc ?_ _) | (with_reducible refine Kd.C_drewN ?_ _) | (with_reducible refine Kd.C_drew ?_))); (case side2 => exact HC0.out); (case side3 => repeat (first | exact (Kd.R_reads' HO_4.out).2.2 | (with_reducible refine Kd.C_alloc ?_ _) | (with_reducible refine Kd.C_drewN ?_ _) | (with_reducible refine Kd.C_drew ?_))); (case side4 => rw [show y265.length = y250.length from (Kd.R_reads' HO_4.out).1.symm]; exact (Kd.R_reads' HO_4.out).2.1); rintro e w44 ⟨rfl, hb⟩; have n0_ := Aside0.mk (Kd.R_below (by (with_reducible repeat (first | apply Kd.R_alloc | apply Kd.R_drewN | apply Kd.R_drew)); exact HO_4.out) hb); have n1_ := Aside0.mk (below_step (by repeat (first | (with_reducible first | exact HB.out | apply below_alloc | apply pw_below_drewN | apply below_drew1) | exact HB.out)) hb); clear HO_4; clear HB; have HO_4 := n0_; have HB := n1_; clear n0_ n1_; (try clear hb); (try clear hb2); (try clear hk); (try clear hi)))
                                go_ret
                                exact ⟨by first | rfl | (simp [errW_none, errW_some] <;> rfl) | (simp only [Opn.bne_nil, Opn.beq_nil]; done) | (simp [Opn.bne_nil, Opn.beq_nil]; done) | (simp only [← hji29, ← hji33]; first | rfl | (simp [errW_none, errW_some] <;> rfl)) | (simp [*, errW_none, errW_some] <;> rfl), by repeat (first | (with_reducible first | exact HB.out | apply below_alloc | apply pw_below_drewN | apply below_drew1) | exact HB.out)⟩
                              · replace c39 := Bool.eq_false_iff.mpr c39
                                subst c39
                                have H1 : (some false) = some r := by rw [if_neg (show ¬ (false = true) by decide)] at H; exact H
                                clear H
                                have H := H1
                                clear H1
                                obtain rfl := Option.some.inj H
                                have p263 : 0 ≤ ((ji29) : Int) := of_decide_eq_true (by first | (with_reducible assumption) | assumption)
                                have q263 : (ji29) < (l0.length : Int) := of_decide_eq_true (by first | (with_reducible assumption) | assumption)
                                obtain ⟨ad263, e263, hx263_0, hx263_1⟩ := at_T31 HR0.out (ji29) p263 q263
                                cases e263
                                replace hx263_0 := (HB.out.cell (World.block_lt_of_cell? w _ hx263_0)).trans hx263_0
                                replace hx263_1 := (HB.out.cell (World.block_lt_of_cell? w _ hx263_1)).trans hx263_1
                                replace p263 := eq_true p263
                                replace q263 := eq_true q263
                                have p264 : 0 ≤ ((ji29) : Int) := of_decide_eq_true (by first | (with_reducible assumption) | assumption)
                                have q264 : (ji29) < (l0.length : Int) := of_decide_eq_true (by first | (with_reducible assumption) | assumption)
                                obtain ⟨ad264, e264, hx264_0, hx264_1⟩ := at_T31 HR0.out (ji29) p264 q264
                                obtain rfl : ad263 = ad264 := (by injection e264)
                                replace hx264_0 := (HB.out.cell (World.block_lt_of_cell? w _ hx264_0)).trans hx264_0
                                replace hx264_1 := (HB.out.cell (World.block_lt_of_cell? w _ hx264_1)).trans hx264_1
                                replace p264 := eq_true p264
                                replace q264 := eq_true q264
                                have p37 : 0 ≤ ((ji29) : Int) := of_decide_eq_true (by first | (with_reducible assumption) | assumption)
                                have q37 : ((ji29) : Int) < ((y250.length : Int) : Int) := of_decide_eq_true (by first | (with_reducible assumption) | assumption)
                                obtain ⟨go37, co37, eo37, gb37, gl37, cl37, HG37⟩ := Kd.R_form HO_4.out (by omega)
                                (first | cases eo37 | (injection eo37 with ea_ en_ ec_; (first | subst ea_ | (injection ea_ with ea_; subst ea_)); subst ec_; clear en_))
                                have GB37 := Aside0.mk gb37
                                have GG37 := Aside0.mk HG37
                                clear gb37 gl37 HG37
                                obtain ⟨ce37, hcl37, hM37, hcc37, hfr37⟩ := Kd.R_elem HO_4.out z31 ((ji29) : Int) p37 q37
                                obtain rfl := k31_openM hM37
                                have hx37_0 : wc.cell? ⟨go37, ((ji29) : Int).toNat * 2, none⟩ = some (.string ((rd_T31 y250 (ji29)).f0)) := hcc37 0 _ rfl
                                have hx37_1 : wc.cell? ⟨go37, ((ji29) : Int).toNat * 2 + 1, none⟩ = some (.string ((rd_T31 y250 (ji29)).f1)) := hcc37 1 _ rfl
                                have hf37_0 : wc.frozen? ⟨go37, ((ji29) : Int).toNat * 2, none⟩ = false := hfr37 0
                                have hf37_1 : wc.frozen? ⟨go37, ((ji29) : Int).toNat * 2 + 1, none⟩ = false := hfr37 1
                                clear hcl37 hcc37 hfr37 hM37
                                replace p37 := eq_true p37
                                replace q37 := eq_true q37
                                have HX45 := Aside0.mk (show Kd.R k31 31 wc w.heap.size (fun _ => True) (.slice (some ⟨go37, 0, none⟩) y250.length co37) y250 from (by (with_reducible repeat (first | apply Kd.R_alloc | apply Kd.R_drewN | apply Kd.R_drew)); exact HO_4.out))
                                obtain ⟨ce45, hcl45, hM45, hcc45, hfr45⟩ := Kd.R_elem HX45.out z31 ((ji29) : Int) (of_decide_eq_true (by first | (with_reducible assumption) | assumption)) (by have h_ : ((ji29) : Int) < ((y250.length : Int) : Int) := of_decide_eq_true (by first | (with_reducible assumption) | assumption); first | exact h_ | (have e_ := (Kd.R_reads' HO_4.out).1; omega) | simpa using h_)
                                obtain rfl := k31_openM hM45
                                have HP45 := Kd.R_seg HX45.out ((ji29) : Int) (of_decide_eq_true (by first | (with_reducible assumption) | assumption)) (by have h_ : ((ji29) : Int) < ((y250.length : Int) : Int) := of_decide_eq_true (by first | (with_reducible assumption) | assumption); first | exact h_ | (have e_ := (Kd.R_reads' HO_4.out).1; omega) | simpa using h_) (seg := [.string (((rd_T31 l0 (ji29)).f1).extract 0 ((ji33) : Int).toNat)]) (j := 1) hcl45 hcc45 (show 2 ≤ 2 from by decide) (x' := (⟨(rd_T31 y250 (ji29)).f0, ((rd_T31 l0 (ji29)).f1).extract 0 ((ji33) : Int).toNat⟩ : S31)) (k31_mkM _ _ _ (⟨(rd_T31 y250 (ji29)).f0, ((rd_T31 l0 (ji29)).f1).extract 0 ((ji33) : Int).toNat⟩ : S31) ) (fun _ hk => hk)
                                have hx45_1 := hcc45 1 _ rfl
                                (try simp only [show (k31).sz = 2 from rfl, Nat.mul_one, Nat.add_zero] at hx45_1)
                                have hf45_1 := hfr45 1
                                (try simp only [show (k31).sz = 2 from rfl, Nat.mul_one, Nat.add_zero] at hf45_1)
                                clear hcl45 hcc45 hfr45 hM45
                                go_wp2_with (first | ((with_reducible refine gate_store (t := 9) (p := 53) rfl ?_); refine store_event (t := 9) (p := 53) (v := ?vo_w46) (w1 := (wc.setCell ⟨go37, ((ji29) : Int).toNat * 2 + 1, none⟩ (.string (((rd_T31 l0 (ji29)).f1).extract 0 ((ji33) : Int).toNat)))) ?hg ?ho ?hn ?hr ?_; (case ho => rfl); (case hg => rfl); (case hn => rfl); (case hr => first | (go_simp; done) | (go_simp; rfl)); intro w46 hw; have hg : wc.grownBy w46 (some go37) := (by rw [hw]; exact HP45.2); have hp_ : Kd.R k31 31 w46 w.heap.size (fun _ => True) (.slice (some ⟨go37, 0, none⟩) y250.length co37) y265 := (by rw [hw, Ny265.out]; exact HP45.1); clear HP45; have n0_ := Aside0.mk (hp_); have n1_ := Aside0.mk ((by rw [hw]; exact below_set (HB.out) GB37.out : Below w.heap.size w w46)); clear HO_4; clear HB; have HO_4 := n0_; have HB := n1_; clear n0_ n1_; clear hg hw hp_) | ((with_reducible refine gate_callee (f := 13) rfl ?_); refine goesL_ (some 56) rfl rfl Try.func13 (by kernel_rfl) rfl #[.slice (some ⟨go37, 0, none⟩) y265.length co37, .slice (some ad263) l0.length c0] rfl (by (try simp only [List.map_toArray, List.map_cons, List.map_nil]); first | done | (rw [show y265.length = y250.length from (Kd.R_reads' HO_4.out).1.symm] <;> rfl) | rfl | (simp only [List.length_drop, List.length_take]; rfl)) ?_; (with_reducible refine (labels_Less.calls _ _ y265 _ _ l0 false _ ?side1 ?side2 ?side3 ?side4 A38.out).mono ?_); (case side1 => repeat (first | exact (Kd.R_reads' HO_4.out).2.2 | (with_reducible refine Kd.C_alloc ?_ _) | (with_reducible refine Kd.C_drewN ?_ _) | (with_reducible refine Kd.C_drew ?_))); (case side2 => rw [show y265.length = y250.length from (Kd.R_reads' HO_4.out).1.symm]; exact (Kd.R_reads' HO_4.out).2.1); (case side3 => repeat (first | exact (Kd.C_below HR0.out HB.out) | (with_reducible refine Kd.C_alloc ?_ _) | (with_reducible refine Kd.C_drewN ?_ _) | (with_reducible refine Kd.C_drew ?_))); (case side4 => exact HC0.out); rintro e w47 ⟨rfl, hb⟩; refine ⟨_, rfl, ?_⟩; have n0_ := Aside0.mk (Kd.R_below (by (with_reducible repeat (first | apply Kd.R_alloc | apply Kd.R_drewN | apply Kd.R_drew)); exact HO_4.out) hb); have n1_ := Aside0.mk (below_step (by repeat (first | (with_reducible first | exact HB.out | apply below_alloc | apply pw_below_drewN | apply below_drew1) | exact HB.out)) hb); clear HO_4; clear HB; have HO_4 := n0_; have HB := n1_; clear n0_ n1_; (try clear hb); (try clear hb2); (try clear hk); (try clear hi)))
                                go_ret
                                exact ⟨by first | rfl | (simp [errW_none, errW_some] <;> rfl) | (simp only [Opn.bne_nil, Opn.beq_nil]; done) | (simp [Opn.bne_nil, Opn.beq_nil]; done) | (simp only [← hji29, ← hji33]; first | rfl | (simp [errW_none, errW_some] <;> rfl)) | (simp [*, errW_none, errW_some] <;> rfl), by repeat (first | (with_reducible first | exact HB.out | apply below_alloc | apply pw_below_drewN | apply below_drew1) | exact HB.out)⟩
                            · rw [if_neg c36] at H
                              exact absurd H (by simp)
                          · rw [if_neg c35] at H
                            exact absurd H (by simp)
                        · rw [if_neg c34] at H
                          exact absurd H (by simp)
                    · rw [if_neg c31] at H
                      exact absurd H (by simp)
                  · rw [if_neg c30] at H
                    exact absurd H (by simp)
          · rw [if_neg c9] at H
            exact absurd H (by simp)
  · replace c3 := Bool.eq_false_iff.mpr c3
    subst c3
    have H1 : (some false) = some r := by rw [if_neg (show ¬ (false = true) by decide)] at H; exact H
    clear H
    have H := H1
    clear H1
    obtain rfl := Option.some.inj H
    go_enter Try.func7, Try.ntmps7
    go_wp2_with (first | ((with_reducible refine gate_callee (f := 31) rfl ?_); refine goesL_ (some 6) rfl rfl Try.func31 (by kernel_rfl) rfl #[] rfl (by (try simp only [List.map_toArray, List.map_cons, List.map_nil]); first | done | rfl | (simp only [List.length_drop, List.length_take]; rfl)) ?_; (with_reducible refine (tocsinlaw07_awake.calls k  false _ A2.out).mono ?_); rintro e w48 ⟨rfl, hb⟩; refine ⟨_, rfl, ?_⟩; have n0_ := Aside0.mk (below_step (by repeat (first | (with_reducible first | exact HB.out | apply below_alloc | apply pw_below_drewN | apply below_drew1) | exact HB.out)) hb); clear HB; have HB := n0_; clear n0_; (try clear hb); (try clear hb2); (try clear hk); (try clear hi)))
    go_ret
    exact ⟨by first | rfl | (simp [errW_none, errW_some] <;> rfl) | (simp only [Opn.bne_nil, Opn.beq_nil]; done) | (simp [Opn.bne_nil, Opn.beq_nil]; done) | (simp [*, errW_none, errW_some] <;> rfl), by repeat (first | (with_reducible first | exact HB.out | apply below_alloc | apply pw_below_drewN | apply below_drew1) | exact HB.out)⟩

/-- THE ONE PURE STATEMENT of tocsinlaw07_LabelsLess1: ours to prove. -/
def tocsinlaw07_LabelsLess1.Pure : Prop := ∀ (l0 : List (S31)), l0.length ≤ 9223372036854775807 → l0.length * 32 ≤ 140737488351232 → (∀ y ∈ l0, good31 y) → ∃ k, tocsinlaw07_LabelsLess1.f k l0 = some true

end Go.Proofs.Ytiicfejaoilfcaa.Q

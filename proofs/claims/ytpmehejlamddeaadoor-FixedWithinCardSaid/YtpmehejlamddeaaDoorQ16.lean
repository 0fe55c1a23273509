/- Functions of the program as plain Lean functions, each with the proof that its call comes to just these answers: written by a program of this session (wip/tools/printg.py over the kit's print) for this claim. -/
import Derived.Test.YtpmehejlamddeaaDoorQ0
import Derived.Test.YtpmehejlamddeaaDoorQ3
import Derived.Test.YtpmehejlamddeaaDoorQ4
import Derived.Test.YtpmehejlamddeaaDoorQ5
import Derived.Test.YtpmehejlamddeaaDoorQ15
namespace Go.Proofs.YtpmehejlamddeaaDoor.Q
open Go.RowKit Go.Proofs.YtpmehejlamddeaaDoorW.PrintWords Go.Proofs.YtpmehejlamddeaaDoorW.PrintLast Go.Proofs.YtpmehejlamddeaaDoorW.PrintMore
attribute [local go_sem] Opn.str_leq Opn.str_gtr Opn.str_geq max2_int min2_int max_two min_two max_three min_three max_four min_four   -- for this text's walks alone
set_option linter.unusedVariables false
set_option linter.unusedSimpArgs false

/-! ### tocsinlaw01_FixedWithin: function 9 -/
mutual
def tocsinlaw01_FixedWithin.j0 : Nat → Int → Int → Int → Int → Int → Int → Int → Bool → Option (Bool)
  | 0, _, _, _, _, _, _, _, _ => none
  | k + 1, x0, x1, x2, x7, x8, x9, x10, x54 => if x54 = true then (some false) else ((tocsinlaw01_within.f x0).bind fun t219 => (if (t219 != (x7 == x0)) = true then (tocsinlaw01_FixedWithin.j1 k x0 x1 x2 x7 x8 x9 true) else ((fixed_Add.f x1 x0).bind fun t220 => (if x9 = t220 then ((fixed_Sub.f x1 x0).bind fun t221 => (if x10 = (wrap64 (-t221)) then ((fixed_Sat.f x7).bind fun t222 => (tocsinlaw01_FixedWithin.j1 k x0 x1 x2 x7 x8 x9 (t222 != x7))) else (tocsinlaw01_FixedWithin.j1 k x0 x1 x2 x7 x8 x9 true))) else (tocsinlaw01_FixedWithin.j1 k x0 x1 x2 x7 x8 x9 true)))))
def tocsinlaw01_FixedWithin.j1 : Nat → Int → Int → Int → Int → Int → Int → Bool → Option (Bool)
  | 0, _, _, _, _, _, _, _ => none
  | k + 1, x0, x1, x2, x7, x8, x9, x81 => if x81 = true then (some false) else ((tocsinlaw01_within.f (wrap64 (x7 + x8))).bind fun t223 => (if t223 = true then (if x9 = (wrap64 (x7 + x8)) then ((fixed_Sub.f x9 x1).bind fun t224 => (tocsinlaw01_FixedWithin.j2 k x0 x2 x7 (t224 != x7))) else (tocsinlaw01_FixedWithin.j2 k x0 x2 x7 true)) else (tocsinlaw01_FixedWithin.j2 k x0 x2 x7 false)))
def tocsinlaw01_FixedWithin.j2 : Nat → Int → Int → Int → Bool → Option (Bool)
  | 0, _, _, _, _ => none
  | k + 1, x0, x2, x7, x99 => if x99 = true then (some false) else ((fixed_Mean.f x0 x2).bind fun t225 => (if x2 < 1 then (some (t225 == 0)) else (if x7 ≥ 0 then (if t225 ≥ 0 then (if (wrap64 (x7 - (wrap64 (t225 * x2)))) ≥ 0 then (if (wrap64 (x7 - (wrap64 (t225 * x2)))) < x2 then (some true) else (if x7 < 0 then (if t225 ≤ 0 then (if (wrap64 (x7 - (wrap64 (t225 * x2)))) ≤ 0 then (some (decide ((wrap64 (x7 - (wrap64 (t225 * x2)))) > (wrap64 (-x2))))) else (some false)) else (some false)) else (some false))) else (if x7 < 0 then (if t225 ≤ 0 then (if (wrap64 (x7 - (wrap64 (t225 * x2)))) ≤ 0 then (some (decide ((wrap64 (x7 - (wrap64 (t225 * x2)))) > (wrap64 (-x2))))) else (some false)) else (some false)) else (some false))) else (if x7 < 0 then (if t225 ≤ 0 then (if (wrap64 (x7 - (wrap64 (t225 * x2)))) ≤ 0 then (some (decide ((wrap64 (x7 - (wrap64 (t225 * x2)))) > (wrap64 (-x2))))) else (some false)) else (some false)) else (some false))) else (if x7 < 0 then (if t225 ≤ 0 then (if (wrap64 (x7 - (wrap64 (t225 * x2)))) ≤ 0 then (some (decide ((wrap64 (x7 - (wrap64 (t225 * x2)))) > (wrap64 (-x2))))) else (some false)) else (some false)) else (some false)))))
end
def tocsinlaw01_FixedWithin.f (k : Nat) (a0 : Int) (a1 : Int) (a2 : Int) : Option (Bool) := (tocsinlaw01_awake.f k).bind fun t204 => (if t204 = true then ((fixed_Sat.f a0).bind fun t205 => ((fixed_Sat.f a1).bind fun t206 => ((fixed_Add.f a0 a1).bind fun t207 => ((fixed_Sub.f a0 a1).bind fun t208 => ((tocsinlaw01_within.f t205).bind fun t209 => (if t209 = true then ((tocsinlaw01_within.f t207).bind fun t210 => (if t210 = true then ((tocsinlaw01_within.f t208).bind fun t211 => (if t211 = true then ((fixed_Mean.f a0 a2).bind fun t212 => ((tocsinlaw01_within.f t212).bind fun t213 => (if t213 = true then ((fixed_Sum.f k (([a0, a1, a0, a1] : List Int))).bind fun t217 => ((tocsinlaw01_within.f t217).bind fun t218 => (tocsinlaw01_FixedWithin.j0 k a0 a1 a2 t205 t206 t207 t208 (!t218)))) else (tocsinlaw01_FixedWithin.j0 k a0 a1 a2 t205 t206 t207 t208 true)))) else (tocsinlaw01_FixedWithin.j0 k a0 a1 a2 t205 t206 t207 t208 true))) else (tocsinlaw01_FixedWithin.j0 k a0 a1 a2 t205 t206 t207 t208 true))) else (tocsinlaw01_FixedWithin.j0 k a0 a1 a2 t205 t206 t207 t208 true))))))) else (some false))
theorem tocsinlaw01_FixedWithin.mono_l : ∀ k, (∀ y0 y1 y2 y3 y4 y5 y6 y7, LeO (tocsinlaw01_FixedWithin.j0 k y0 y1 y2 y3 y4 y5 y6 y7) (tocsinlaw01_FixedWithin.j0 (k + 1) y0 y1 y2 y3 y4 y5 y6 y7)) ∧ (∀ y0 y1 y2 y3 y4 y5 y6, LeO (tocsinlaw01_FixedWithin.j1 k y0 y1 y2 y3 y4 y5 y6) (tocsinlaw01_FixedWithin.j1 (k + 1) y0 y1 y2 y3 y4 y5 y6)) ∧ (∀ y0 y1 y2 y3, LeO (tocsinlaw01_FixedWithin.j2 k y0 y1 y2 y3) (tocsinlaw01_FixedWithin.j2 (k + 1) y0 y1 y2 y3))
  | 0 => ⟨fun _ _ _ _ _ _ _ _ r h => by simp [tocsinlaw01_FixedWithin.j0] at h, fun _ _ _ _ _ _ _ r h => by simp [tocsinlaw01_FixedWithin.j1] at h, fun _ _ _ _ r h => by simp [tocsinlaw01_FixedWithin.j2] at h⟩
  | k + 1 => by
    obtain ⟨ih0, ih1, ih2⟩ := tocsinlaw01_FixedWithin.mono_l k
    refine ⟨?_, ?_, ?_⟩
    · intro y0 y1 y2 y3 y4 y5 y6 y7
      unfold tocsinlaw01_FixedWithin.j0
      repeat' first
      | (with_reducible exact ih0 _ _ _ _ _ _ _ _)
      | (with_reducible exact ih1 _ _ _ _ _ _ _)
      | (with_reducible exact ih2 _ _ _ _)
      | (with_reducible exact fixed_Sum.mono _ _)
      | (with_reducible exact tocsinlaw01_awake.mono _)
      | (with_reducible exact LeO.refl _)
      | (with_reducible exact LeO.none _)
      | (with_reducible refine LeO.ite ?_ ?_)
      | (with_reducible refine LeO.bind ?_ (fun _ => ?_))
      | exact ih0 _ _ _ _ _ _ _ _
      | exact ih1 _ _ _ _ _ _ _
      | exact ih2 _ _ _ _
      | exact fixed_Sum.mono _ _
      | exact tocsinlaw01_awake.mono _
      | exact LeO.none _
      | refine LeO.ite ?_ ?_
      | refine LeO.bind ?_ (fun _ => ?_)
    · intro y0 y1 y2 y3 y4 y5 y6
      unfold tocsinlaw01_FixedWithin.j1
      repeat' first
      | (with_reducible exact ih0 _ _ _ _ _ _ _ _)
      | (with_reducible exact ih1 _ _ _ _ _ _ _)
      | (with_reducible exact ih2 _ _ _ _)
      | (with_reducible exact fixed_Sum.mono _ _)
      | (with_reducible exact tocsinlaw01_awake.mono _)
      | (with_reducible exact LeO.refl _)
      | (with_reducible exact LeO.none _)
      | (with_reducible refine LeO.ite ?_ ?_)
      | (with_reducible refine LeO.bind ?_ (fun _ => ?_))
      | exact ih0 _ _ _ _ _ _ _ _
      | exact ih1 _ _ _ _ _ _ _
      | exact ih2 _ _ _ _
      | exact fixed_Sum.mono _ _
      | exact tocsinlaw01_awake.mono _
      | exact LeO.none _
      | refine LeO.ite ?_ ?_
      | refine LeO.bind ?_ (fun _ => ?_)
    · intro y0 y1 y2 y3
      unfold tocsinlaw01_FixedWithin.j2
      repeat' first
      | (with_reducible exact ih0 _ _ _ _ _ _ _ _)
      | (with_reducible exact ih1 _ _ _ _ _ _ _)
      | (with_reducible exact ih2 _ _ _ _)
      | (with_reducible exact fixed_Sum.mono _ _)
      | (with_reducible exact tocsinlaw01_awake.mono _)
      | (with_reducible exact LeO.refl _)
      | (with_reducible exact LeO.none _)
      | (with_reducible refine LeO.ite ?_ ?_)
      | (with_reducible refine LeO.bind ?_ (fun _ => ?_))
      | exact ih0 _ _ _ _ _ _ _ _
      | exact ih1 _ _ _ _ _ _ _
      | exact ih2 _ _ _ _
      | exact fixed_Sum.mono _ _
      | exact tocsinlaw01_awake.mono _
      | exact LeO.none _
      | refine LeO.ite ?_ ?_
      | refine LeO.bind ?_ (fun _ => ?_)
theorem tocsinlaw01_FixedWithin.mono : ∀ a0 a1 a2 k, LeO (tocsinlaw01_FixedWithin.f k a0 a1 a2) (tocsinlaw01_FixedWithin.f (k + 1) a0 a1 a2) := by
  intro a0 a1 a2 k
  obtain ⟨ih0, ih1, ih2⟩ := tocsinlaw01_FixedWithin.mono_l k
  unfold tocsinlaw01_FixedWithin.f
  repeat' first
      | (with_reducible exact ih0 _ _ _ _ _ _ _ _)
      | (with_reducible exact ih1 _ _ _ _ _ _ _)
      | (with_reducible exact ih2 _ _ _ _)
      | (with_reducible exact fixed_Sum.mono _ _)
      | (with_reducible exact tocsinlaw01_awake.mono _)
      | (with_reducible exact LeO.refl _)
      | (with_reducible exact LeO.none _)
      | (with_reducible refine LeO.ite ?_ ?_)
      | (with_reducible refine LeO.bind ?_ (fun _ => ?_))
      | exact ih0 _ _ _ _ _ _ _ _
      | exact ih1 _ _ _ _ _ _ _
      | exact ih2 _ _ _ _
      | exact fixed_Sum.mono _ _
      | exact tocsinlaw01_awake.mono _
      | exact LeO.none _
      | refine LeO.ite ?_ ?_
      | refine LeO.bind ?_ (fun _ => ?_)
set_option maxHeartbeats 8000000 in
set_option maxRecDepth 100000 in
theorem tocsinlaw01_FixedWithin.calls (k : Nat) (a0 : Int) (a1 : Int) (a2 : Int) (r : Bool) (w : World) (h : tocsinlaw01_FixedWithin.f k a0 a1 a2 = some r) (hTab : Tb w) :
    Calls Tryd.prog 9 #[.int .i64 a0, .int .i64 a1, .int .i64 a2] w fun e w' => e = .returned (.bool r) ∧ Below w.heap.size w w' := by
  have HTab := Aside0.mk hTab
  clear hTab
  have HB := Aside0.mk (Below.refl w.heap.size w)
  have H : ((tocsinlaw01_awake.f k).bind fun t204 => (if t204 = true then ((fixed_Sat.f a0).bind fun t205 => ((fixed_Sat.f a1).bind fun t206 => ((fixed_Add.f a0 a1).bind fun t207 => ((fixed_Sub.f a0 a1).bind fun t208 => ((tocsinlaw01_within.f t205).bind fun t209 => (if t209 = true then ((tocsinlaw01_within.f t207).bind fun t210 => (if t210 = true then ((tocsinlaw01_within.f t208).bind fun t211 => (if t211 = true then ((fixed_Mean.f a0 a2).bind fun t212 => ((tocsinlaw01_within.f t212).bind fun t213 => (if t213 = true then ((fixed_Sum.f k (([a0, a1, a0, a1] : List Int))).bind fun t217 => ((tocsinlaw01_within.f t217).bind fun t218 => (tocsinlaw01_FixedWithin.j0 k a0 a1 a2 t205 t206 t207 t208 (!t218)))) else (tocsinlaw01_FixedWithin.j0 k a0 a1 a2 t205 t206 t207 t208 true)))) else (tocsinlaw01_FixedWithin.j0 k a0 a1 a2 t205 t206 t207 t208 true))) else (tocsinlaw01_FixedWithin.j0 k a0 a1 a2 t205 t206 t207 t208 true))) else (tocsinlaw01_FixedWithin.j0 k a0 a1 a2 t205 t206 t207 t208 true))))))) else (some false))) = some r := h
  clear h
  replace H := Option.bind_eq_some_iff.mp H
  obtain ⟨t204, A40, H⟩ := H
  replace H : (if t204 = true then ((fixed_Sat.f a0).bind fun t205 => ((fixed_Sat.f a1).bind fun t206 => ((fixed_Add.f a0 a1).bind fun t207 => ((fixed_Sub.f a0 a1).bind fun t208 => ((tocsinlaw01_within.f t205).bind fun t209 => (if t209 = true then ((tocsinlaw01_within.f t207).bind fun t210 => (if t210 = true then ((tocsinlaw01_within.f t208).bind fun t211 => (if t211 = true then ((fixed_Mean.f a0 a2).bind fun t212 => ((tocsinlaw01_within.f t212).bind fun t213 => (if t213 = true then ((fixed_Sum.f k (([a0, a1, a0, a1] : List Int))).bind fun t217 => ((tocsinlaw01_within.f t217).bind fun t218 => (tocsinlaw01_FixedWithin.j0 k a0 a1 a2 t205 t206 t207 t208 (!t218)))) else (tocsinlaw01_FixedWithin.j0 k a0 a1 a2 t205 t206 t207 t208 true)))) else (tocsinlaw01_FixedWithin.j0 k a0 a1 a2 t205 t206 t207 t208 true))) else (tocsinlaw01_FixedWithin.j0 k a0 a1 a2 t205 t206 t207 t208 true))) else (tocsinlaw01_FixedWithin.j0 k a0 a1 a2 t205 t206 t207 t208 true))))))) else (some false)) = some r := H
  have A4 := Aside0.mk A40
  clear A40
  by_cases c5 : t204 = true
  · subst c5
    have H1 : ((fixed_Sat.f a0).bind fun t205 => ((fixed_Sat.f a1).bind fun t206 => ((fixed_Add.f a0 a1).bind fun t207 => ((fixed_Sub.f a0 a1).bind fun t208 => ((tocsinlaw01_within.f t205).bind fun t209 => (if t209 = true then ((tocsinlaw01_within.f t207).bind fun t210 => (if t210 = true then ((tocsinlaw01_within.f t208).bind fun t211 => (if t211 = true then ((fixed_Mean.f a0 a2).bind fun t212 => ((tocsinlaw01_within.f t212).bind fun t213 => (if t213 = true then ((fixed_Sum.f k (([a0, a1, a0, a1] : List Int))).bind fun t217 => ((tocsinlaw01_within.f t217).bind fun t218 => (tocsinlaw01_FixedWithin.j0 k a0 a1 a2 t205 t206 t207 t208 (!t218)))) else (tocsinlaw01_FixedWithin.j0 k a0 a1 a2 t205 t206 t207 t208 true)))) else (tocsinlaw01_FixedWithin.j0 k a0 a1 a2 t205 t206 t207 t208 true))) else (tocsinlaw01_FixedWithin.j0 k a0 a1 a2 t205 t206 t207 t208 true))) else (tocsinlaw01_FixedWithin.j0 k a0 a1 a2 t205 t206 t207 t208 true))))))) = some r := by rw [if_pos rfl] at H; exact H
    clear H
    have H := H1
    clear H1
    replace H := Option.bind_eq_some_iff.mp H
    obtain ⟨t205, A60, H⟩ := H
    replace H : ((fixed_Sat.f a1).bind fun t206 => ((fixed_Add.f a0 a1).bind fun t207 => ((fixed_Sub.f a0 a1).bind fun t208 => ((tocsinlaw01_within.f t205).bind fun t209 => (if t209 = true then ((tocsinlaw01_within.f t207).bind fun t210 => (if t210 = true then ((tocsinlaw01_within.f t208).bind fun t211 => (if t211 = true then ((fixed_Mean.f a0 a2).bind fun t212 => ((tocsinlaw01_within.f t212).bind fun t213 => (if t213 = true then ((fixed_Sum.f k (([a0, a1, a0, a1] : List Int))).bind fun t217 => ((tocsinlaw01_within.f t217).bind fun t218 => (tocsinlaw01_FixedWithin.j0 k a0 a1 a2 t205 t206 t207 t208 (!t218)))) else (tocsinlaw01_FixedWithin.j0 k a0 a1 a2 t205 t206 t207 t208 true)))) else (tocsinlaw01_FixedWithin.j0 k a0 a1 a2 t205 t206 t207 t208 true))) else (tocsinlaw01_FixedWithin.j0 k a0 a1 a2 t205 t206 t207 t208 true))) else (tocsinlaw01_FixedWithin.j0 k a0 a1 a2 t205 t206 t207 t208 true)))))) = some r := H
    have A6 := Aside0.mk A60
    clear A60
    replace H := Option.bind_eq_some_iff.mp H
    obtain ⟨t206, A70, H⟩ := H
    replace H : ((fixed_Add.f a0 a1).bind fun t207 => ((fixed_Sub.f a0 a1).bind fun t208 => ((tocsinlaw01_within.f t205).bind fun t209 => (if t209 = true then ((tocsinlaw01_within.f t207).bind fun t210 => (if t210 = true then ((tocsinlaw01_within.f t208).bind fun t211 => (if t211 = true then ((fixed_Mean.f a0 a2).bind fun t212 => ((tocsinlaw01_within.f t212).bind fun t213 => (if t213 = true then ((fixed_Sum.f k (([a0, a1, a0, a1] : List Int))).bind fun t217 => ((tocsinlaw01_within.f t217).bind fun t218 => (tocsinlaw01_FixedWithin.j0 k a0 a1 a2 t205 t206 t207 t208 (!t218)))) else (tocsinlaw01_FixedWithin.j0 k a0 a1 a2 t205 t206 t207 t208 true)))) else (tocsinlaw01_FixedWithin.j0 k a0 a1 a2 t205 t206 t207 t208 true))) else (tocsinlaw01_FixedWithin.j0 k a0 a1 a2 t205 t206 t207 t208 true))) else (tocsinlaw01_FixedWithin.j0 k a0 a1 a2 t205 t206 t207 t208 true))))) = some r := H
    have A7 := Aside0.mk A70
    clear A70
    replace H := Option.bind_eq_some_iff.mp H
    obtain ⟨t207, A80, H⟩ := H
    replace H : ((fixed_Sub.f a0 a1).bind fun t208 => ((tocsinlaw01_within.f t205).bind fun t209 => (if t209 = true then ((tocsinlaw01_within.f t207).bind fun t210 => (if t210 = true then ((tocsinlaw01_within.f t208).bind fun t211 => (if t211 = true then ((fixed_Mean.f a0 a2).bind fun t212 => ((tocsinlaw01_within.f t212).bind fun t213 => (if t213 = true then ((fixed_Sum.f k (([a0, a1, a0, a1] : List Int))).bind fun t217 => ((tocsinlaw01_within.f t217).bind fun t218 => (tocsinlaw01_FixedWithin.j0 k a0 a1 a2 t205 t206 t207 t208 (!t218)))) else (tocsinlaw01_FixedWithin.j0 k a0 a1 a2 t205 t206 t207 t208 true)))) else (tocsinlaw01_FixedWithin.j0 k a0 a1 a2 t205 t206 t207 t208 true))) else (tocsinlaw01_FixedWithin.j0 k a0 a1 a2 t205 t206 t207 t208 true))) else (tocsinlaw01_FixedWithin.j0 k a0 a1 a2 t205 t206 t207 t208 true)))) = some r := H
    have A8 := Aside0.mk A80
    clear A80
    replace H := Option.bind_eq_some_iff.mp H
    obtain ⟨t208, A90, H⟩ := H
    replace H : ((tocsinlaw01_within.f t205).bind fun t209 => (if t209 = true then ((tocsinlaw01_within.f t207).bind fun t210 => (if t210 = true then ((tocsinlaw01_within.f t208).bind fun t211 => (if t211 = true then ((fixed_Mean.f a0 a2).bind fun t212 => ((tocsinlaw01_within.f t212).bind fun t213 => (if t213 = true then ((fixed_Sum.f k (([a0, a1, a0, a1] : List Int))).bind fun t217 => ((tocsinlaw01_within.f t217).bind fun t218 => (tocsinlaw01_FixedWithin.j0 k a0 a1 a2 t205 t206 t207 t208 (!t218)))) else (tocsinlaw01_FixedWithin.j0 k a0 a1 a2 t205 t206 t207 t208 true)))) else (tocsinlaw01_FixedWithin.j0 k a0 a1 a2 t205 t206 t207 t208 true))) else (tocsinlaw01_FixedWithin.j0 k a0 a1 a2 t205 t206 t207 t208 true))) else (tocsinlaw01_FixedWithin.j0 k a0 a1 a2 t205 t206 t207 t208 true))) = some r := H
    have A9 := Aside0.mk A90
    clear A90
    have HC10 := Aside0.mk H
    clear H
    go_enter Tryd.func9, Tryd.ntmps9
    go_upto_region 5 with (first | ((with_reducible refine gate_callee (f := 15) rfl ?_); refine goesL_ (some 13) rfl rfl Tryd.func15 (by kernel_rfl) rfl #[] rfl (by (try simp only [List.map_toArray, List.map_cons, List.map_nil]); first | done | rfl | (simp only [List.length_drop, List.length_take]; rfl)) ?_; (with_reducible refine (tocsinlaw01_awake.calls k  true _ A4.out ?sideTab).mono ?_); (case sideTab => repeat (first | exact (tb_below HTab.out HB.out) | exact HTab.out | (with_reducible refine tb_alloc ?_ _) | (with_reducible refine tb_drewN ?_ _) | (with_reducible refine tb_drew ?_))); rintro e w11 ⟨rfl, hb⟩; refine ⟨_, rfl, ?_⟩; have n0_ := Aside0.mk (below_step (by repeat (first | (with_reducible first | exact HB.out | apply below_alloc | apply pw_below_drewN | apply below_drew1) | exact HB.out)) hb); clear HB; have HB := n0_; clear n0_; (try clear hb); (try clear hb2); (try clear hk); (try clear hi)) | ((with_reducible refine gate_callee (f := 16) rfl ?_); refine goesL_ (some 16) rfl rfl Tryd.func16 (by kernel_rfl) rfl #[.int .i64 a0] rfl (by (try simp only [List.map_toArray, List.map_cons, List.map_nil]); first | done | rfl | (simp only [List.length_drop, List.length_take]; rfl)) ?_; (with_reducible refine (fixed_Sat.calls a0 t205 _ A6.out).mono ?_); rintro e w12 ⟨rfl, hb⟩; refine ⟨_, rfl, ?_⟩; have n0_ := Aside0.mk (below_step (by repeat (first | (with_reducible first | exact HB.out | apply below_alloc | apply pw_below_drewN | apply below_drew1) | exact HB.out)) hb); clear HB; have HB := n0_; clear n0_; (try clear hb); (try clear hb2); (try clear hk); (try clear hi)) | ((with_reducible refine gate_callee (f := 16) rfl ?_); refine goesL_ (some 18) rfl rfl Tryd.func16 (by kernel_rfl) rfl #[.int .i64 a1] rfl (by (try simp only [List.map_toArray, List.map_cons, List.map_nil]); first | done | rfl | (simp only [List.length_drop, List.length_take]; rfl)) ?_; (with_reducible refine (fixed_Sat.calls a1 t206 _ A7.out).mono ?_); rintro e w13 ⟨rfl, hb⟩; refine ⟨_, rfl, ?_⟩; have n0_ := Aside0.mk (below_step (by repeat (first | (with_reducible first | exact HB.out | apply below_alloc | apply pw_below_drewN | apply below_drew1) | exact HB.out)) hb); clear HB; have HB := n0_; clear n0_; (try clear hb); (try clear hb2); (try clear hk); (try clear hi)) | ((with_reducible refine gate_callee (f := 19) rfl ?_); refine goesL_ (some 21) rfl rfl Tryd.func19 (by kernel_rfl) rfl #[.int .i64 a0, .int .i64 a1] rfl (by (try simp only [List.map_toArray, List.map_cons, List.map_nil]); first | done | rfl | (simp only [List.length_drop, List.length_take]; rfl)) ?_; (with_reducible refine (fixed_Add.calls a0 a1 t207 _ A8.out).mono ?_); rintro e w14 ⟨rfl, hb⟩; refine ⟨_, rfl, ?_⟩; have n0_ := Aside0.mk (below_step (by repeat (first | (with_reducible first | exact HB.out | apply below_alloc | apply pw_below_drewN | apply below_drew1) | exact HB.out)) hb); clear HB; have HB := n0_; clear n0_; (try clear hb); (try clear hb2); (try clear hk); (try clear hi)) | ((with_reducible refine gate_callee (f := 21) rfl ?_); refine goesL_ (some 24) rfl rfl Tryd.func21 (by kernel_rfl) rfl #[.int .i64 a0, .int .i64 a1] rfl (by (try simp only [List.map_toArray, List.map_cons, List.map_nil]); first | done | rfl | (simp only [List.length_drop, List.length_take]; rfl)) ?_; (with_reducible refine (fixed_Sub.calls a0 a1 t208 _ A9.out).mono ?_); rintro e w15 ⟨rfl, hb⟩; refine ⟨_, rfl, ?_⟩; have n0_ := Aside0.mk (below_step (by repeat (first | (with_reducible first | exact HB.out | apply below_alloc | apply pw_below_drewN | apply below_drew1) | exact HB.out)) hb); clear HB; have HB := n0_; clear n0_; (try clear hb); (try clear hb2); (try clear hk); (try clear hi)))
    (try simp only [Act.put, List.setIfInBounds_toArray, List.set_cons_zero, List.set_cons_succ])
    go_cut [54] (fun v54 wc => ∃ (kq : Nat) (x54_9 : Bool), v54 = .bool x54_9 ∧ Aside0 (tocsinlaw01_FixedWithin.j0 kq a0 a1 a2 t205 t206 t207 t208 x54_9 = some r) ∧ Aside0 (kq ≤ k) ∧ Aside0 (Below w.heap.size w wc))
    case first =>
      have H := HC10.out
      clear HC10
      replace H := Option.bind_eq_some_iff.mp H
      obtain ⟨t209, A160, H⟩ := H
      replace H : (if t209 = true then ((tocsinlaw01_within.f t207).bind fun t210 => (if t210 = true then ((tocsinlaw01_within.f t208).bind fun t211 => (if t211 = true then ((fixed_Mean.f a0 a2).bind fun t212 => ((tocsinlaw01_within.f t212).bind fun t213 => (if t213 = true then ((fixed_Sum.f k (([a0, a1, a0, a1] : List Int))).bind fun t217 => ((tocsinlaw01_within.f t217).bind fun t218 => (tocsinlaw01_FixedWithin.j0 k a0 a1 a2 t205 t206 t207 t208 (!t218)))) else (tocsinlaw01_FixedWithin.j0 k a0 a1 a2 t205 t206 t207 t208 true)))) else (tocsinlaw01_FixedWithin.j0 k a0 a1 a2 t205 t206 t207 t208 true))) else (tocsinlaw01_FixedWithin.j0 k a0 a1 a2 t205 t206 t207 t208 true))) else (tocsinlaw01_FixedWithin.j0 k a0 a1 a2 t205 t206 t207 t208 true)) = some r := H
      have A16 := Aside0.mk A160
      clear A160
      by_cases c17 : t209 = true
      · subst c17
        have H1 : ((tocsinlaw01_within.f t207).bind fun t210 => (if t210 = true then ((tocsinlaw01_within.f t208).bind fun t211 => (if t211 = true then ((fixed_Mean.f a0 a2).bind fun t212 => ((tocsinlaw01_within.f t212).bind fun t213 => (if t213 = true then ((fixed_Sum.f k (([a0, a1, a0, a1] : List Int))).bind fun t217 => ((tocsinlaw01_within.f t217).bind fun t218 => (tocsinlaw01_FixedWithin.j0 k a0 a1 a2 t205 t206 t207 t208 (!t218)))) else (tocsinlaw01_FixedWithin.j0 k a0 a1 a2 t205 t206 t207 t208 true)))) else (tocsinlaw01_FixedWithin.j0 k a0 a1 a2 t205 t206 t207 t208 true))) else (tocsinlaw01_FixedWithin.j0 k a0 a1 a2 t205 t206 t207 t208 true))) = some r := by rw [if_pos rfl] at H; exact H
        clear H
        have H := H1
        clear H1
        replace H := Option.bind_eq_some_iff.mp H
        obtain ⟨t210, A180, H⟩ := H
        replace H : (if t210 = true then ((tocsinlaw01_within.f t208).bind fun t211 => (if t211 = true then ((fixed_Mean.f a0 a2).bind fun t212 => ((tocsinlaw01_within.f t212).bind fun t213 => (if t213 = true then ((fixed_Sum.f k (([a0, a1, a0, a1] : List Int))).bind fun t217 => ((tocsinlaw01_within.f t217).bind fun t218 => (tocsinlaw01_FixedWithin.j0 k a0 a1 a2 t205 t206 t207 t208 (!t218)))) else (tocsinlaw01_FixedWithin.j0 k a0 a1 a2 t205 t206 t207 t208 true)))) else (tocsinlaw01_FixedWithin.j0 k a0 a1 a2 t205 t206 t207 t208 true))) else (tocsinlaw01_FixedWithin.j0 k a0 a1 a2 t205 t206 t207 t208 true)) = some r := H
        have A18 := Aside0.mk A180
        clear A180
        by_cases c19 : t210 = true
        · subst c19
          have H1 : ((tocsinlaw01_within.f t208).bind fun t211 => (if t211 = true then ((fixed_Mean.f a0 a2).bind fun t212 => ((tocsinlaw01_within.f t212).bind fun t213 => (if t213 = true then ((fixed_Sum.f k (([a0, a1, a0, a1] : List Int))).bind fun t217 => ((tocsinlaw01_within.f t217).bind fun t218 => (tocsinlaw01_FixedWithin.j0 k a0 a1 a2 t205 t206 t207 t208 (!t218)))) else (tocsinlaw01_FixedWithin.j0 k a0 a1 a2 t205 t206 t207 t208 true)))) else (tocsinlaw01_FixedWithin.j0 k a0 a1 a2 t205 t206 t207 t208 true))) = some r := by rw [if_pos rfl] at H; exact H
          clear H
          have H := H1
          clear H1
          replace H := Option.bind_eq_some_iff.mp H
          obtain ⟨t211, A200, H⟩ := H
          replace H : (if t211 = true then ((fixed_Mean.f a0 a2).bind fun t212 => ((tocsinlaw01_within.f t212).bind fun t213 => (if t213 = true then ((fixed_Sum.f k (([a0, a1, a0, a1] : List Int))).bind fun t217 => ((tocsinlaw01_within.f t217).bind fun t218 => (tocsinlaw01_FixedWithin.j0 k a0 a1 a2 t205 t206 t207 t208 (!t218)))) else (tocsinlaw01_FixedWithin.j0 k a0 a1 a2 t205 t206 t207 t208 true)))) else (tocsinlaw01_FixedWithin.j0 k a0 a1 a2 t205 t206 t207 t208 true)) = some r := H
          have A20 := Aside0.mk A200
          clear A200
          by_cases c21 : t211 = true
          · subst c21
            have H1 : ((fixed_Mean.f a0 a2).bind fun t212 => ((tocsinlaw01_within.f t212).bind fun t213 => (if t213 = true then ((fixed_Sum.f k (([a0, a1, a0, a1] : List Int))).bind fun t217 => ((tocsinlaw01_within.f t217).bind fun t218 => (tocsinlaw01_FixedWithin.j0 k a0 a1 a2 t205 t206 t207 t208 (!t218)))) else (tocsinlaw01_FixedWithin.j0 k a0 a1 a2 t205 t206 t207 t208 true)))) = some r := by rw [if_pos rfl] at H; exact H
            clear H
            have H := H1
            clear H1
            replace H := Option.bind_eq_some_iff.mp H
            obtain ⟨t212, A220, H⟩ := H
            replace H : ((tocsinlaw01_within.f t212).bind fun t213 => (if t213 = true then ((fixed_Sum.f k (([a0, a1, a0, a1] : List Int))).bind fun t217 => ((tocsinlaw01_within.f t217).bind fun t218 => (tocsinlaw01_FixedWithin.j0 k a0 a1 a2 t205 t206 t207 t208 (!t218)))) else (tocsinlaw01_FixedWithin.j0 k a0 a1 a2 t205 t206 t207 t208 true))) = some r := H
            have A22 := Aside0.mk A220
            clear A220
            replace H := Option.bind_eq_some_iff.mp H
            obtain ⟨t213, A230, H⟩ := H
            replace H : (if t213 = true then ((fixed_Sum.f k (([a0, a1, a0, a1] : List Int))).bind fun t217 => ((tocsinlaw01_within.f t217).bind fun t218 => (tocsinlaw01_FixedWithin.j0 k a0 a1 a2 t205 t206 t207 t208 (!t218)))) else (tocsinlaw01_FixedWithin.j0 k a0 a1 a2 t205 t206 t207 t208 true)) = some r := H
            have A23 := Aside0.mk A230
            clear A230
            by_cases c24 : t213 = true
            · subst c24
              have H1 : ((fixed_Sum.f k (([a0, a1, a0, a1] : List Int))).bind fun t217 => ((tocsinlaw01_within.f t217).bind fun t218 => (tocsinlaw01_FixedWithin.j0 k a0 a1 a2 t205 t206 t207 t208 (!t218)))) = some r := by rw [if_pos rfl] at H; exact H
              clear H
              have H := H1
              clear H1
              obtain ⟨y214, hy214⟩ : ∃ y_ : List Int, y_ = (([a0, a1, a0, a1] : List Int)) := ⟨_, rfl⟩
              replace H : ((fixed_Sum.f k y214).bind fun t217 => ((tocsinlaw01_within.f t217).bind fun t218 => (tocsinlaw01_FixedWithin.j0 k a0 a1 a2 t205 t206 t207 t208 (!t218)))) = some r := by first | (rw [hy214]; with_reducible exact H) | (have H2_ := (Option.bind_some _ _).symm.trans H; rw [hy214]; with_reducible exact H2_) | (have H2_ := (Option.bind_some _ _).symm.trans H; with_reducible exact H2_) | with_reducible exact H | (rw [hy214]; exact H) | exact H
              have Ny214 := Aside0.mk hy214
              clear hy214
              replace H := Option.bind_eq_some_iff.mp H
              obtain ⟨t217, A250, H⟩ := H
              replace H : ((tocsinlaw01_within.f t217).bind fun t218 => (tocsinlaw01_FixedWithin.j0 k a0 a1 a2 t205 t206 t207 t208 (!t218))) = some r := H
              have A25 := Aside0.mk A250
              clear A250
              replace H := Option.bind_eq_some_iff.mp H
              obtain ⟨t218, A260, H⟩ := H
              replace H : (tocsinlaw01_FixedWithin.j0 k a0 a1 a2 t205 t206 t207 t208 (!t218)) = some r := H
              have A26 := Aside0.mk A260
              clear A260
              have H' := Aside0.mk H
              clear H
              go_wp2_with (first | ((with_reducible refine gate_callee (f := 17) rfl ?_); refine goesL_ (some 26) rfl rfl Tryd.func17 (by kernel_rfl) rfl #[.int .i64 t205] rfl (by (try simp only [List.map_toArray, List.map_cons, List.map_nil]); first | done | rfl | (simp only [List.length_drop, List.length_take]; rfl)) ?_; (with_reducible refine (tocsinlaw01_within.calls t205 true _ A16.out).mono ?_); rintro e w' ⟨rfl, ⟨nd, rfl⟩⟩; refine ⟨_, rfl, ?_⟩) | (go_at_call 17; (with_reducible refine (tocsinlaw01_within.calls t207 true _ A18.out).mono ?_); rintro e w' ⟨rfl, ⟨nd, rfl⟩⟩) | (go_at_call 17; (with_reducible refine (tocsinlaw01_within.calls t208 true _ A20.out).mono ?_); rintro e w' ⟨rfl, ⟨nd, rfl⟩⟩) | (go_at_call 20; (with_reducible refine (fixed_Mean.calls a0 a2 t212 _ A22.out).mono ?_); rintro e w27 ⟨rfl, hb⟩; have n0_ := Aside0.mk (below_step (by repeat (first | (with_reducible first | exact HB.out | apply below_alloc | apply pw_below_drewN | apply below_drew1) | exact HB.out)) hb); clear HB; have HB := n0_; clear n0_; (try clear hb); (try clear hb2); (try clear hk); (try clear hi)) | (go_at_call 17; (with_reducible refine (tocsinlaw01_within.calls t212 true _ A23.out).mono ?_); rintro e w' ⟨rfl, ⟨nd, rfl⟩⟩) | ((with_reducible refine gate_dst (N := 50) rfl ?_); (try (refine gate_guard (by rfl) ?_; dsimp only)); refine Kd.R_lit (Kd.int .i64) _ 2 ?hg (N := 50) ?hd (xs := ([a0, a1, a0, a1] : List Int)) (inner := [.int .i64 a0, .int .i64 a1, .int .i64 a0, .int .i64 a1]) (ok := fun _ => True) (okp := fun _ => True) ?hr ?hp (fun _ hk => hk) trivial (Below.refl _ _) (Nat.le_refl _) (by simp) ?_; (case hd => rfl); (case hg => rfl); (case hr => first | (go_simp; done) | (go_simp; rfl)); (case hp => exact (Reps.one (show Kd.M (Kd.int .i64) _ _ _ a0 [.int .i64 a0] from rfl) (Reps.one (show Kd.M (Kd.int .i64) _ _ _ a1 [.int .i64 a1] from rfl) (Reps.one (show Kd.M (Kd.int .i64) _ _ _ a0 [.int .i64 a0] from rfl) (Reps.one (show Kd.M (Kd.int .i64) _ _ _ a1 [.int .i64 a1] from rfl) (Reps.none _ _)))))); intro v215 w28 ho29 hb hg_ hnew_; clear hg_ hnew_; (first | rw [← Ny214.out] at ho29 | (simp only [Int.reduceToNat] at ho29; rw [← Ny214.out] at ho29)); have n0_ := Aside0.mk (Kd.R_lower ho29 (below_size (by repeat (first | (with_reducible first | exact HB.out | apply below_alloc | apply pw_below_drewN | apply below_drew1) | exact HB.out)))); have n1_ := Aside0.mk (below_step (by repeat (first | (with_reducible first | exact HB.out | apply below_alloc | apply pw_below_drewN | apply below_drew1) | exact HB.out)) hb); clear HB; have HO216 := n0_; have HB := n1_; clear n0_ n1_; clear hb ho29; obtain ⟨Ao30, co30, eo30⟩ := Kd.R_slice HO216.out; subst eo30) | (go_at_call 18; (with_reducible refine (fixed_Sum.calls k _ _ y214 t217 _ ?side1 ?side2 A25.out).mono ?_); (case side1 => repeat (first | exact (Kd.R_reads' HO216.out).2.2 | (with_reducible refine Kd.C_alloc ?_ _) | (with_reducible refine Kd.C_drewN ?_ _) | (with_reducible refine Kd.C_drew ?_))); (case side2 => exact (Kd.R_reads' HO216.out).2.1); rintro e w31 ⟨rfl, hb⟩; have n0_ := Aside0.mk (Kd.R_below (by (with_reducible repeat (first | apply Kd.R_alloc | apply Kd.R_drewN | apply Kd.R_drew)); exact HO216.out) hb); have n1_ := Aside0.mk (below_step (by repeat (first | (with_reducible first | exact HB.out | apply below_alloc | apply pw_below_drewN | apply below_drew1) | exact HB.out)) hb); clear HO216; clear HB; have HO216 := n0_; have HB := n1_; clear n0_ n1_; (try clear hb); (try clear hb2); (try clear hk); (try clear hi)) | (go_at_call 17; (with_reducible refine (tocsinlaw01_within.calls t217 t218 _ A26.out).mono ?_); rintro e w' ⟨rfl, ⟨nd, rfl⟩⟩))
              go_meet
              case rel => exact ⟨_, (!t218), (by first | rfl | (simp; done) | (simp [*]; done)), H', ⟨by first | omega | exact Nat.le_refl _⟩, ⟨by repeat (first | (with_reducible first | exact HB.out | apply below_alloc | apply pw_below_drewN | apply below_drew1) | exact HB.out)⟩⟩
            · replace c24 := Bool.eq_false_iff.mpr c24
              subst c24
              have H1 : (tocsinlaw01_FixedWithin.j0 k a0 a1 a2 t205 t206 t207 t208 true) = some r := by rw [if_neg (show ¬ (false = true) by decide)] at H; exact H
              clear H
              have H := H1
              clear H1
              have H' := Aside0.mk H
              clear H
              go_wp2_with (first | ((with_reducible refine gate_callee (f := 17) rfl ?_); refine goesL_ (some 26) rfl rfl Tryd.func17 (by kernel_rfl) rfl #[.int .i64 t205] rfl (by (try simp only [List.map_toArray, List.map_cons, List.map_nil]); first | done | rfl | (simp only [List.length_drop, List.length_take]; rfl)) ?_; (with_reducible refine (tocsinlaw01_within.calls t205 true _ A16.out).mono ?_); rintro e w' ⟨rfl, ⟨nd, rfl⟩⟩; refine ⟨_, rfl, ?_⟩) | (go_at_call 17; (with_reducible refine (tocsinlaw01_within.calls t207 true _ A18.out).mono ?_); rintro e w' ⟨rfl, ⟨nd, rfl⟩⟩) | (go_at_call 17; (with_reducible refine (tocsinlaw01_within.calls t208 true _ A20.out).mono ?_); rintro e w' ⟨rfl, ⟨nd, rfl⟩⟩) | (go_at_call 20; (with_reducible refine (fixed_Mean.calls a0 a2 t212 _ A22.out).mono ?_); rintro e w32 ⟨rfl, hb⟩; have n0_ := Aside0.mk (below_step (by repeat (first | (with_reducible first | exact HB.out | apply below_alloc | apply pw_below_drewN | apply below_drew1) | exact HB.out)) hb); clear HB; have HB := n0_; clear n0_; (try clear hb); (try clear hb2); (try clear hk); (try clear hi)) | (go_at_call 17; (with_reducible refine (tocsinlaw01_within.calls t212 false _ A23.out).mono ?_); rintro e w' ⟨rfl, ⟨nd, rfl⟩⟩))
              go_meet
              case rel => exact ⟨_, (true), (by first | rfl | (simp; done) | (simp [*]; done)), H', ⟨by first | omega | exact Nat.le_refl _⟩, ⟨by repeat (first | (with_reducible first | exact HB.out | apply below_alloc | apply pw_below_drewN | apply below_drew1) | exact HB.out)⟩⟩
          · replace c21 := Bool.eq_false_iff.mpr c21
            subst c21
            have H1 : (tocsinlaw01_FixedWithin.j0 k a0 a1 a2 t205 t206 t207 t208 true) = some r := by rw [if_neg (show ¬ (false = true) by decide)] at H; exact H
            clear H
            have H := H1
            clear H1
            have H' := Aside0.mk H
            clear H
            go_wp2_with (first | ((with_reducible refine gate_callee (f := 17) rfl ?_); refine goesL_ (some 26) rfl rfl Tryd.func17 (by kernel_rfl) rfl #[.int .i64 t205] rfl (by (try simp only [List.map_toArray, List.map_cons, List.map_nil]); first | done | rfl | (simp only [List.length_drop, List.length_take]; rfl)) ?_; (with_reducible refine (tocsinlaw01_within.calls t205 true _ A16.out).mono ?_); rintro e w' ⟨rfl, ⟨nd, rfl⟩⟩; refine ⟨_, rfl, ?_⟩) | (go_at_call 17; (with_reducible refine (tocsinlaw01_within.calls t207 true _ A18.out).mono ?_); rintro e w' ⟨rfl, ⟨nd, rfl⟩⟩) | (go_at_call 17; (with_reducible refine (tocsinlaw01_within.calls t208 false _ A20.out).mono ?_); rintro e w' ⟨rfl, ⟨nd, rfl⟩⟩))
            go_meet
            case rel => exact ⟨_, (true), (by first | rfl | (simp; done) | (simp [*]; done)), H', ⟨by first | omega | exact Nat.le_refl _⟩, ⟨by repeat (first | (with_reducible first | exact HB.out | apply below_alloc | apply pw_below_drewN | apply below_drew1) | exact HB.out)⟩⟩
        · replace c19 := Bool.eq_false_iff.mpr c19
          subst c19
          have H1 : (tocsinlaw01_FixedWithin.j0 k a0 a1 a2 t205 t206 t207 t208 true) = some r := by rw [if_neg (show ¬ (false = true) by decide)] at H; exact H
          clear H
          have H := H1
          clear H1
          have H' := Aside0.mk H
          clear H
          go_wp2_with (first | ((with_reducible refine gate_callee (f := 17) rfl ?_); refine goesL_ (some 26) rfl rfl Tryd.func17 (by kernel_rfl) rfl #[.int .i64 t205] rfl (by (try simp only [List.map_toArray, List.map_cons, List.map_nil]); first | done | rfl | (simp only [List.length_drop, List.length_take]; rfl)) ?_; (with_reducible refine (tocsinlaw01_within.calls t205 true _ A16.out).mono ?_); rintro e w' ⟨rfl, ⟨nd, rfl⟩⟩; refine ⟨_, rfl, ?_⟩) | (go_at_call 17; (with_reducible refine (tocsinlaw01_within.calls t207 false _ A18.out).mono ?_); rintro e w' ⟨rfl, ⟨nd, rfl⟩⟩))
          go_meet
          case rel => exact ⟨_, (true), (by first | rfl | (simp; done) | (simp [*]; done)), H', ⟨by first | omega | exact Nat.le_refl _⟩, ⟨by repeat (first | (with_reducible first | exact HB.out | apply below_alloc | apply pw_below_drewN | apply below_drew1) | exact HB.out)⟩⟩
      · replace c17 := Bool.eq_false_iff.mpr c17
        subst c17
        have H1 : (tocsinlaw01_FixedWithin.j0 k a0 a1 a2 t205 t206 t207 t208 true) = some r := by rw [if_neg (show ¬ (false = true) by decide)] at H; exact H
        clear H
        have H := H1
        clear H1
        have H' := Aside0.mk H
        clear H
        go_wp2_with (first | ((with_reducible refine gate_callee (f := 17) rfl ?_); refine goesL_ (some 26) rfl rfl Tryd.func17 (by kernel_rfl) rfl #[.int .i64 t205] rfl (by (try simp only [List.map_toArray, List.map_cons, List.map_nil]); first | done | rfl | (simp only [List.length_drop, List.length_take]; rfl)) ?_; (with_reducible refine (tocsinlaw01_within.calls t205 false _ A16.out).mono ?_); rintro e w' ⟨rfl, ⟨nd, rfl⟩⟩; refine ⟨_, rfl, ?_⟩))
        go_meet
        case rel => exact ⟨_, (true), (by first | rfl | (simp; done) | (simp [*]; done)), H', ⟨by first | omega | exact Nat.le_refl _⟩, ⟨by repeat (first | (with_reducible first | exact HB.out | apply below_alloc | apply pw_below_drewN | apply below_drew1) | exact HB.out)⟩⟩
    case rest =>
      clear HC10
      try clear c1
      try clear c2
      try clear p2
      try clear c5
      try clear c9
      try clear c15
      try clear c16
      try clear c17
      try clear c19
      try clear c21
      try clear c24
      obtain ⟨kq, x54_9, rfl, HA, HJ9, HB⟩ := hcut
      cases kq with
      | zero => exact absurd HA.out (by simp [tocsinlaw01_FixedWithin.j0])
      | succ kj9 =>
        have H := HA.out
        clear HA
        simp only [tocsinlaw01_FixedWithin.j0] at H
        by_cases c33 : x54_9 = true
        · subst c33
          have H1 : (some false) = some r := by rw [if_pos rfl] at H; exact H
          clear H
          have H := H1
          clear H1
          obtain rfl := Option.some.inj H
          go_wp2
          go_ret
          exact ⟨by first | rfl | (simp [errW_none, errW_some] <;> rfl) | (simp only [Opn.bne_nil, Opn.beq_nil]; done) | (simp [Opn.bne_nil, Opn.beq_nil]; done) | (simp [*, errW_none, errW_some] <;> rfl), by repeat (first | (with_reducible first | exact HB.out | apply below_alloc | apply pw_below_drewN | apply below_drew1) | exact HB.out)⟩
        · replace c33 := Bool.eq_false_iff.mpr c33
          subst c33
          have H1 : ((tocsinlaw01_within.f a0).bind fun t219 => (if (t219 != (t205 == a0)) = true then (tocsinlaw01_FixedWithin.j1 kj9 a0 a1 a2 t205 t206 t207 true) else ((fixed_Add.f a1 a0).bind fun t220 => (if t207 = t220 then ((fixed_Sub.f a1 a0).bind fun t221 => (if t208 = (wrap64 (-t221)) then ((fixed_Sat.f t205).bind fun t222 => (tocsinlaw01_FixedWithin.j1 kj9 a0 a1 a2 t205 t206 t207 (t222 != t205))) else (tocsinlaw01_FixedWithin.j1 kj9 a0 a1 a2 t205 t206 t207 true))) else (tocsinlaw01_FixedWithin.j1 kj9 a0 a1 a2 t205 t206 t207 true))))) = some r := by rw [if_neg (show ¬ (false = true) by decide)] at H; exact H
          clear H
          have H := H1
          clear H1
          have HC34 := Aside0.mk H
          clear H
          go_upto_region 7 with (fail)
          go_cut [81] (fun v81 wc => ∃ (kq : Nat) (x81_33 : Bool), v81 = .bool x81_33 ∧ Aside0 (tocsinlaw01_FixedWithin.j1 kq a0 a1 a2 t205 t206 t207 x81_33 = some r) ∧ Aside0 (kq ≤ kj9) ∧ Aside0 (Below w.heap.size w wc))
          case first =>
            have H := HC34.out
            clear HC34
            replace H := Option.bind_eq_some_iff.mp H
            obtain ⟨t219, A350, H⟩ := H
            replace H : (if (t219 != (t205 == a0)) = true then (tocsinlaw01_FixedWithin.j1 kj9 a0 a1 a2 t205 t206 t207 true) else ((fixed_Add.f a1 a0).bind fun t220 => (if t207 = t220 then ((fixed_Sub.f a1 a0).bind fun t221 => (if t208 = (wrap64 (-t221)) then ((fixed_Sat.f t205).bind fun t222 => (tocsinlaw01_FixedWithin.j1 kj9 a0 a1 a2 t205 t206 t207 (t222 != t205))) else (tocsinlaw01_FixedWithin.j1 kj9 a0 a1 a2 t205 t206 t207 true))) else (tocsinlaw01_FixedWithin.j1 kj9 a0 a1 a2 t205 t206 t207 true)))) = some r := H
            have A35 := Aside0.mk A350
            clear A350
            by_cases c36 : (t219 != (t205 == a0)) = true
            · rw [if_pos c36] at H
              have c36b0 : (t219 != (t205 == a0)) = true := c36
              (try (have c36b1 : decide (t219 = (t205 == a0)) = false := by simpa using c36))
              (try (have c36b2 : (t219 == (t205 == a0)) = false := by simpa using c36))
              (try (have c36b3 : ¬ (t219 = (t205 == a0)) := by simpa using c36))
              clear c36
              (first | rw [c36b0] | (simp only [i64_w, i32_w]; rw [c36b0]) | skip)
              have H' := Aside0.mk H
              clear H
              go_wp2_with (first | ((with_reducible refine gate_callee (f := 17) rfl ?_); refine goesL_ (some 56) rfl rfl Tryd.func17 (by kernel_rfl) rfl #[.int .i64 a0] rfl (by (try simp only [List.map_toArray, List.map_cons, List.map_nil]); first | done | rfl | (simp only [List.length_drop, List.length_take]; rfl)) ?_; (with_reducible refine (tocsinlaw01_within.calls a0 t219 _ A35.out).mono ?_); rintro e w' ⟨rfl, ⟨nd, rfl⟩⟩; refine ⟨_, rfl, ?_⟩))
              go_meet
              case rel => exact ⟨_, (true), (by first | rfl | (simp; done) | (simp [*]; done)), H', ⟨by have := HJ9.out; first | omega | exact Nat.le_refl _⟩, ⟨by repeat (first | (with_reducible first | exact HB.out | apply below_alloc | apply pw_below_drewN | apply below_drew1) | exact HB.out)⟩⟩
            · rw [if_neg c36] at H
              have c36b0 : (t219 != (t205 == a0)) = false := by simpa using c36
              (try (have c36b1 : decide (t219 = (t205 == a0)) = true := by simpa using c36))
              (try (have c36b2 : (t219 == (t205 == a0)) = true := by simpa using c36))
              clear c36
              (first | rw [c36b0] | (simp only [i64_w, i32_w]; rw [c36b0]) | skip)
              replace H := Option.bind_eq_some_iff.mp H
              obtain ⟨t220, A370, H⟩ := H
              replace H : (if t207 = t220 then ((fixed_Sub.f a1 a0).bind fun t221 => (if t208 = (wrap64 (-t221)) then ((fixed_Sat.f t205).bind fun t222 => (tocsinlaw01_FixedWithin.j1 kj9 a0 a1 a2 t205 t206 t207 (t222 != t205))) else (tocsinlaw01_FixedWithin.j1 kj9 a0 a1 a2 t205 t206 t207 true))) else (tocsinlaw01_FixedWithin.j1 kj9 a0 a1 a2 t205 t206 t207 true)) = some r := H
              have A37 := Aside0.mk A370
              clear A370
              by_cases c38 : t207 = t220
              · rw [if_pos c38] at H
                have c38b0 : (t207 == t220) = true := beq_iff_eq.mpr c38
                have c38b1 : (t207 != t220) = false := bne_eq_false_iff_eq.mpr c38
                clear c38
                replace H := Option.bind_eq_some_iff.mp H
                obtain ⟨t221, A390, H⟩ := H
                replace H : (if t208 = (wrap64 (-t221)) then ((fixed_Sat.f t205).bind fun t222 => (tocsinlaw01_FixedWithin.j1 kj9 a0 a1 a2 t205 t206 t207 (t222 != t205))) else (tocsinlaw01_FixedWithin.j1 kj9 a0 a1 a2 t205 t206 t207 true)) = some r := H
                have A39 := Aside0.mk A390
                clear A390
                by_cases c40 : t208 = (wrap64 (-t221))
                · rw [if_pos c40] at H
                  have c40b0 : (t208 == (wrap64 (-t221))) = true := beq_iff_eq.mpr c40
                  have c40b1 : (t208 != (wrap64 (-t221))) = false := bne_eq_false_iff_eq.mpr c40
                  clear c40
                  replace H := Option.bind_eq_some_iff.mp H
                  obtain ⟨t222, A410, H⟩ := H
                  replace H : (tocsinlaw01_FixedWithin.j1 kj9 a0 a1 a2 t205 t206 t207 (t222 != t205)) = some r := H
                  have A41 := Aside0.mk A410
                  clear A410
                  have H' := Aside0.mk H
                  clear H
                  go_wp2_with (first | ((with_reducible refine gate_callee (f := 17) rfl ?_); refine goesL_ (some 56) rfl rfl Tryd.func17 (by kernel_rfl) rfl #[.int .i64 a0] rfl (by (try simp only [List.map_toArray, List.map_cons, List.map_nil]); first | done | rfl | (simp only [List.length_drop, List.length_take]; rfl)) ?_; (with_reducible refine (tocsinlaw01_within.calls a0 t219 _ A35.out).mono ?_); rintro e w' ⟨rfl, ⟨nd, rfl⟩⟩; refine ⟨_, rfl, ?_⟩) | (go_at_call 19; (with_reducible refine (fixed_Add.calls a1 a0 t220 _ A37.out).mono ?_); rintro e w42 ⟨rfl, hb⟩; have n0_ := Aside0.mk (below_step (by repeat (first | (with_reducible first | exact HB.out | apply below_alloc | apply pw_below_drewN | apply below_drew1) | exact HB.out)) hb); clear HB; have HB := n0_; clear n0_; (try clear hb); (try clear hb2); (try clear hk); (try clear hi)) | (go_at_call 21; (with_reducible refine (fixed_Sub.calls a1 a0 t221 _ A39.out).mono ?_); rintro e w43 ⟨rfl, hb⟩; have n0_ := Aside0.mk (below_step (by repeat (first | (with_reducible first | exact HB.out | apply below_alloc | apply pw_below_drewN | apply below_drew1) | exact HB.out)) hb); clear HB; have HB := n0_; clear n0_; (try clear hb); (try clear hb2); (try clear hk); (try clear hi)) | (go_at_call 16; (with_reducible refine (fixed_Sat.calls t205 t222 _ A41.out).mono ?_); rintro e w44 ⟨rfl, hb⟩; have n0_ := Aside0.mk (below_step (by repeat (first | (with_reducible first | exact HB.out | apply below_alloc | apply pw_below_drewN | apply below_drew1) | exact HB.out)) hb); clear HB; have HB := n0_; clear n0_; (try clear hb); (try clear hb2); (try clear hk); (try clear hi)))
                  go_meet
                  case rel => exact ⟨_, ((t222 != t205)), (by first | rfl | (simp; done) | (simp [*]; done)), H', ⟨by have := HJ9.out; first | omega | exact Nat.le_refl _⟩, ⟨by repeat (first | (with_reducible first | exact HB.out | apply below_alloc | apply pw_below_drewN | apply below_drew1) | exact HB.out)⟩⟩
                · rw [if_neg c40] at H
                  have c40b0 : (t208 == (wrap64 (-t221))) = false := beq_eq_false_iff_ne.mpr c40
                  have c40b1 : (t208 != (wrap64 (-t221))) = true := bne_iff_ne.mpr c40
                  have H' := Aside0.mk H
                  clear H
                  go_wp2_with (first | ((with_reducible refine gate_callee (f := 17) rfl ?_); refine goesL_ (some 56) rfl rfl Tryd.func17 (by kernel_rfl) rfl #[.int .i64 a0] rfl (by (try simp only [List.map_toArray, List.map_cons, List.map_nil]); first | done | rfl | (simp only [List.length_drop, List.length_take]; rfl)) ?_; (with_reducible refine (tocsinlaw01_within.calls a0 t219 _ A35.out).mono ?_); rintro e w' ⟨rfl, ⟨nd, rfl⟩⟩; refine ⟨_, rfl, ?_⟩) | (go_at_call 19; (with_reducible refine (fixed_Add.calls a1 a0 t220 _ A37.out).mono ?_); rintro e w45 ⟨rfl, hb⟩; have n0_ := Aside0.mk (below_step (by repeat (first | (with_reducible first | exact HB.out | apply below_alloc | apply pw_below_drewN | apply below_drew1) | exact HB.out)) hb); clear HB; have HB := n0_; clear n0_; (try clear hb); (try clear hb2); (try clear hk); (try clear hi)) | (go_at_call 21; (with_reducible refine (fixed_Sub.calls a1 a0 t221 _ A39.out).mono ?_); rintro e w46 ⟨rfl, hb⟩; have n0_ := Aside0.mk (below_step (by repeat (first | (with_reducible first | exact HB.out | apply below_alloc | apply pw_below_drewN | apply below_drew1) | exact HB.out)) hb); clear HB; have HB := n0_; clear n0_; (try clear hb); (try clear hb2); (try clear hk); (try clear hi)))
                  go_meet
                  case rel => exact ⟨_, (true), (by first | rfl | (simp; done) | (simp [*]; done)), H', ⟨by have := HJ9.out; first | omega | exact Nat.le_refl _⟩, ⟨by repeat (first | (with_reducible first | exact HB.out | apply below_alloc | apply pw_below_drewN | apply below_drew1) | exact HB.out)⟩⟩
              · rw [if_neg c38] at H
                have c38b0 : (t207 == t220) = false := beq_eq_false_iff_ne.mpr c38
                have c38b1 : (t207 != t220) = true := bne_iff_ne.mpr c38
                have H' := Aside0.mk H
                clear H
                go_wp2_with (first | ((with_reducible refine gate_callee (f := 17) rfl ?_); refine goesL_ (some 56) rfl rfl Tryd.func17 (by kernel_rfl) rfl #[.int .i64 a0] rfl (by (try simp only [List.map_toArray, List.map_cons, List.map_nil]); first | done | rfl | (simp only [List.length_drop, List.length_take]; rfl)) ?_; (with_reducible refine (tocsinlaw01_within.calls a0 t219 _ A35.out).mono ?_); rintro e w' ⟨rfl, ⟨nd, rfl⟩⟩; refine ⟨_, rfl, ?_⟩) | (go_at_call 19; (with_reducible refine (fixed_Add.calls a1 a0 t220 _ A37.out).mono ?_); rintro e w47 ⟨rfl, hb⟩; have n0_ := Aside0.mk (below_step (by repeat (first | (with_reducible first | exact HB.out | apply below_alloc | apply pw_below_drewN | apply below_drew1) | exact HB.out)) hb); clear HB; have HB := n0_; clear n0_; (try clear hb); (try clear hb2); (try clear hk); (try clear hi)))
                go_meet
                case rel => exact ⟨_, (true), (by first | rfl | (simp; done) | (simp [*]; done)), H', ⟨by have := HJ9.out; first | omega | exact Nat.le_refl _⟩, ⟨by repeat (first | (with_reducible first | exact HB.out | apply below_alloc | apply pw_below_drewN | apply below_drew1) | exact HB.out)⟩⟩
          case rest =>
            clear HC34
            try clear c1
            try clear c2
            try clear p2
            try clear c3
            try clear c4
            try clear c5
            try clear p6
            try clear c9
            try clear c15
            try clear c16
            try clear c17
            try clear c19
            try clear c21
            try clear c24
            try clear c33
            try clear c36
            try clear c36b0
            try clear c36b1
            try clear c36b2
            try clear c38
            try clear c38b0
            try clear c38b1
            try clear c40
            try clear c40b0
            try clear c40b1
            try clear p2
            obtain ⟨kq, x81_33, rfl, HA, HJ33, HB⟩ := hcut
            cases kq with
            | zero => exact absurd HA.out (by simp [tocsinlaw01_FixedWithin.j1])
            | succ kj33 =>
              have H := HA.out
              clear HA
              simp only [tocsinlaw01_FixedWithin.j1] at H
              by_cases c48 : x81_33 = true
              · subst c48
                have H1 : (some false) = some r := by rw [if_pos rfl] at H; exact H
                clear H
                have H := H1
                clear H1
                obtain rfl := Option.some.inj H
                go_wp2
                go_ret
                exact ⟨by first | rfl | (simp [errW_none, errW_some] <;> rfl) | (simp only [Opn.bne_nil, Opn.beq_nil]; done) | (simp [Opn.bne_nil, Opn.beq_nil]; done) | (simp [*, errW_none, errW_some] <;> rfl), by repeat (first | (with_reducible first | exact HB.out | apply below_alloc | apply pw_below_drewN | apply below_drew1) | exact HB.out)⟩
              · replace c48 := Bool.eq_false_iff.mpr c48
                subst c48
                have H1 : ((tocsinlaw01_within.f (wrap64 (t205 + t206))).bind fun t223 => (if t223 = true then (if t207 = (wrap64 (t205 + t206)) then ((fixed_Sub.f t207 a1).bind fun t224 => (tocsinlaw01_FixedWithin.j2 kj33 a0 a2 t205 (t224 != t205))) else (tocsinlaw01_FixedWithin.j2 kj33 a0 a2 t205 true)) else (tocsinlaw01_FixedWithin.j2 kj33 a0 a2 t205 false))) = some r := by rw [if_neg (show ¬ (false = true) by decide)] at H; exact H
                clear H
                have H := H1
                clear H1
                have HC49 := Aside0.mk H
                clear H
                go_upto_region 9 with (fail)
                go_cut [99] (fun v99 wc => ∃ (kq : Nat) (x99_48 : Bool), v99 = .bool x99_48 ∧ Aside0 (tocsinlaw01_FixedWithin.j2 kq a0 a2 t205 x99_48 = some r) ∧ Aside0 (kq ≤ kj33) ∧ Aside0 (Below w.heap.size w wc))
                case first =>
                  have H := HC49.out
                  clear HC49
                  replace H := Option.bind_eq_some_iff.mp H
                  obtain ⟨t223, A500, H⟩ := H
                  replace H : (if t223 = true then (if t207 = (wrap64 (t205 + t206)) then ((fixed_Sub.f t207 a1).bind fun t224 => (tocsinlaw01_FixedWithin.j2 kj33 a0 a2 t205 (t224 != t205))) else (tocsinlaw01_FixedWithin.j2 kj33 a0 a2 t205 true)) else (tocsinlaw01_FixedWithin.j2 kj33 a0 a2 t205 false)) = some r := H
                  have A50 := Aside0.mk A500
                  clear A500
                  by_cases c51 : t223 = true
                  · subst c51
                    have H1 : (if t207 = (wrap64 (t205 + t206)) then ((fixed_Sub.f t207 a1).bind fun t224 => (tocsinlaw01_FixedWithin.j2 kj33 a0 a2 t205 (t224 != t205))) else (tocsinlaw01_FixedWithin.j2 kj33 a0 a2 t205 true)) = some r := by rw [if_pos rfl] at H; exact H
                    clear H
                    have H := H1
                    clear H1
                    by_cases c52 : t207 = (wrap64 (t205 + t206))
                    · rw [if_pos c52] at H
                      have c52b0 : (t207 == (wrap64 (t205 + t206))) = true := beq_iff_eq.mpr c52
                      have c52b1 : (t207 != (wrap64 (t205 + t206))) = false := bne_eq_false_iff_eq.mpr c52
                      clear c52
                      (first | rw [c52b0] | (simp only [i64_w, i32_w]; rw [c52b0]) | skip)
                      replace H := Option.bind_eq_some_iff.mp H
                      obtain ⟨t224, A530, H⟩ := H
                      replace H : (tocsinlaw01_FixedWithin.j2 kj33 a0 a2 t205 (t224 != t205)) = some r := H
                      have A53 := Aside0.mk A530
                      clear A530
                      have H' := Aside0.mk H
                      clear H
                      go_wp2_with (first | ((with_reducible refine gate_callee (f := 17) rfl ?_); refine goesL_ (some 85) rfl rfl Tryd.func17 (by kernel_rfl) rfl #[.int .i64 (wrap64 (t205 + t206))] rfl (by (try simp only [List.map_toArray, List.map_cons, List.map_nil]); first | done | rfl | (simp only [List.length_drop, List.length_take]; rfl)) ?_; (with_reducible refine (tocsinlaw01_within.calls (wrap64 (t205 + t206)) true _ A50.out).mono ?_); rintro e w' ⟨rfl, ⟨nd, rfl⟩⟩; refine ⟨_, rfl, ?_⟩) | (go_at_call 21; (with_reducible refine (fixed_Sub.calls t207 a1 t224 _ A53.out).mono ?_); rintro e w54 ⟨rfl, hb⟩; have n0_ := Aside0.mk (below_step (by repeat (first | (with_reducible first | exact HB.out | apply below_alloc | apply pw_below_drewN | apply below_drew1) | exact HB.out)) hb); clear HB; have HB := n0_; clear n0_; (try clear hb); (try clear hb2); (try clear hk); (try clear hi)))
                      go_meet
                      case rel => exact ⟨_, ((t224 != t205)), (by first | rfl | (simp; done) | (simp [*]; done)), H', ⟨by have := HJ9.out; have := HJ33.out; first | omega | exact Nat.le_refl _⟩, ⟨by repeat (first | (with_reducible first | exact HB.out | apply below_alloc | apply pw_below_drewN | apply below_drew1) | exact HB.out)⟩⟩
                    · rw [if_neg c52] at H
                      have c52b0 : (t207 == (wrap64 (t205 + t206))) = false := beq_eq_false_iff_ne.mpr c52
                      have c52b1 : (t207 != (wrap64 (t205 + t206))) = true := bne_iff_ne.mpr c52
                      (first | rw [c52b0] | (simp only [i64_w, i32_w]; rw [c52b0]) | skip)
                      have H' := Aside0.mk H
                      clear H
                      go_wp2_with (first | ((with_reducible refine gate_callee (f := 17) rfl ?_); refine goesL_ (some 85) rfl rfl Tryd.func17 (by kernel_rfl) rfl #[.int .i64 (wrap64 (t205 + t206))] rfl (by (try simp only [List.map_toArray, List.map_cons, List.map_nil]); first | done | rfl | (simp only [List.length_drop, List.length_take]; rfl)) ?_; (with_reducible refine (tocsinlaw01_within.calls (wrap64 (t205 + t206)) true _ A50.out).mono ?_); rintro e w' ⟨rfl, ⟨nd, rfl⟩⟩; refine ⟨_, rfl, ?_⟩))
                      go_meet
                      case rel => exact ⟨_, (true), (by first | rfl | (simp; done) | (simp [*]; done)), H', ⟨by have := HJ9.out; have := HJ33.out; first | omega | exact Nat.le_refl _⟩, ⟨by repeat (first | (with_reducible first | exact HB.out | apply below_alloc | apply pw_below_drewN | apply below_drew1) | exact HB.out)⟩⟩
                  · replace c51 := Bool.eq_false_iff.mpr c51
                    subst c51
                    have H1 : (tocsinlaw01_FixedWithin.j2 kj33 a0 a2 t205 false) = some r := by rw [if_neg (show ¬ (false = true) by decide)] at H; exact H
                    clear H
                    have H := H1
                    clear H1
                    have H' := Aside0.mk H
                    clear H
                    go_wp2_with (first | ((with_reducible refine gate_callee (f := 17) rfl ?_); refine goesL_ (some 85) rfl rfl Tryd.func17 (by kernel_rfl) rfl #[.int .i64 (wrap64 (t205 + t206))] rfl (by (try simp only [List.map_toArray, List.map_cons, List.map_nil]); first | done | rfl | (simp only [List.length_drop, List.length_take]; rfl)) ?_; (with_reducible refine (tocsinlaw01_within.calls (wrap64 (t205 + t206)) false _ A50.out).mono ?_); rintro e w' ⟨rfl, ⟨nd, rfl⟩⟩; refine ⟨_, rfl, ?_⟩))
                    go_meet
                    case rel => exact ⟨_, (false), (by first | rfl | (simp; done) | (simp [*]; done)), H', ⟨by have := HJ9.out; have := HJ33.out; first | omega | exact Nat.le_refl _⟩, ⟨by repeat (first | (with_reducible first | exact HB.out | apply below_alloc | apply pw_below_drewN | apply below_drew1) | exact HB.out)⟩⟩
                case rest =>
                  clear HC49
                  try clear c1
                  try clear c2
                  try clear p2
                  try clear c3
                  try clear c4
                  try clear c5
                  try clear p6
                  try clear c9
                  try clear c15
                  try clear c16
                  try clear c17
                  try clear c19
                  try clear c21
                  try clear c24
                  try clear c33
                  try clear c36
                  try clear c36b0
                  try clear c36b1
                  try clear c36b2
                  try clear c38
                  try clear c38b0
                  try clear c38b1
                  try clear c40
                  try clear c40b0
                  try clear c40b1
                  try clear c48
                  try clear c51
                  try clear c52
                  try clear c52b0
                  try clear c52b1
                  try clear p2
                  try clear p6
                  obtain ⟨kq, x99_48, rfl, HA, HJ48, HB⟩ := hcut
                  cases kq with
                  | zero => exact absurd HA.out (by simp [tocsinlaw01_FixedWithin.j2])
                  | succ kj48 =>
                    have H := HA.out
                    clear HA
                    simp only [tocsinlaw01_FixedWithin.j2] at H
                    by_cases c55 : x99_48 = true
                    · subst c55
                      have H1 : (some false) = some r := by rw [if_pos rfl] at H; exact H
                      clear H
                      have H := H1
                      clear H1
                      obtain rfl := Option.some.inj H
                      go_wp2
                      go_ret
                      exact ⟨by first | rfl | (simp [errW_none, errW_some] <;> rfl) | (simp only [Opn.bne_nil, Opn.beq_nil]; done) | (simp [Opn.bne_nil, Opn.beq_nil]; done) | (simp [*, errW_none, errW_some] <;> rfl), by repeat (first | (with_reducible first | exact HB.out | apply below_alloc | apply pw_below_drewN | apply below_drew1) | exact HB.out)⟩
                    · replace c55 := Bool.eq_false_iff.mpr c55
                      subst c55
                      have H1 : ((fixed_Mean.f a0 a2).bind fun t225 => (if a2 < 1 then (some (t225 == 0)) else (if t205 ≥ 0 then (if t225 ≥ 0 then (if (wrap64 (t205 - (wrap64 (t225 * a2)))) ≥ 0 then (if (wrap64 (t205 - (wrap64 (t225 * a2)))) < a2 then (some true) else (if t205 < 0 then (if t225 ≤ 0 then (if (wrap64 (t205 - (wrap64 (t225 * a2)))) ≤ 0 then (some (decide ((wrap64 (t205 - (wrap64 (t225 * a2)))) > (wrap64 (-a2))))) else (some false)) else (some false)) else (some false))) else (if t205 < 0 then (if t225 ≤ 0 then (if (wrap64 (t205 - (wrap64 (t225 * a2)))) ≤ 0 then (some (decide ((wrap64 (t205 - (wrap64 (t225 * a2)))) > (wrap64 (-a2))))) else (some false)) else (some false)) else (some false))) else (if t205 < 0 then (if t225 ≤ 0 then (if (wrap64 (t205 - (wrap64 (t225 * a2)))) ≤ 0 then (some (decide ((wrap64 (t205 - (wrap64 (t225 * a2)))) > (wrap64 (-a2))))) else (some false)) else (some false)) else (some false))) else (if t205 < 0 then (if t225 ≤ 0 then (if (wrap64 (t205 - (wrap64 (t225 * a2)))) ≤ 0 then (some (decide ((wrap64 (t205 - (wrap64 (t225 * a2)))) > (wrap64 (-a2))))) else (some false)) else (some false)) else (some false))))) = some r := by rw [if_neg (show ¬ (false = true) by decide)] at H; exact H
                      clear H
                      have H := H1
                      clear H1
                      replace H := Option.bind_eq_some_iff.mp H
                      obtain ⟨t225, A560, H⟩ := H
                      replace H : (if a2 < 1 then (some (t225 == 0)) else (if t205 ≥ 0 then (if t225 ≥ 0 then (if (wrap64 (t205 - (wrap64 (t225 * a2)))) ≥ 0 then (if (wrap64 (t205 - (wrap64 (t225 * a2)))) < a2 then (some true) else (if t205 < 0 then (if t225 ≤ 0 then (if (wrap64 (t205 - (wrap64 (t225 * a2)))) ≤ 0 then (some (decide ((wrap64 (t205 - (wrap64 (t225 * a2)))) > (wrap64 (-a2))))) else (some false)) else (some false)) else (some false))) else (if t205 < 0 then (if t225 ≤ 0 then (if (wrap64 (t205 - (wrap64 (t225 * a2)))) ≤ 0 then (some (decide ((wrap64 (t205 - (wrap64 (t225 * a2)))) > (wrap64 (-a2))))) else (some false)) else (some false)) else (some false))) else (if t205 < 0 then (if t225 ≤ 0 then (if (wrap64 (t205 - (wrap64 (t225 * a2)))) ≤ 0 then (some (decide ((wrap64 (t205 - (wrap64 (t225 * a2)))) > (wrap64 (-a2))))) else (some false)) else (some false)) else (some false))) else (if t205 < 0 then (if t225 ≤ 0 then (if (wrap64 (t205 - (wrap64 (t225 * a2)))) ≤ 0 then (some (decide ((wrap64 (t205 - (wrap64 (t225 * a2)))) > (wrap64 (-a2))))) else (some false)) else (some false)) else (some false)))) = some r := H
                      have A56 := Aside0.mk A560
                      clear A560
                      by_cases c57 : a2 < 1
                      · rw [if_pos c57] at H
                        have c57b0 : decide (a2 < 1) = true := decide_eq_true c57
                        clear c57
                        obtain rfl := Option.some.inj H
                        go_wp2_with (first | ((with_reducible refine gate_callee (f := 20) rfl ?_); refine goesL_ (some 102) rfl rfl Tryd.func20 (by kernel_rfl) rfl #[.int .i64 a0, .int .i64 a2] rfl (by (try simp only [List.map_toArray, List.map_cons, List.map_nil]); first | done | rfl | (simp only [List.length_drop, List.length_take]; rfl)) ?_; (with_reducible refine (fixed_Mean.calls a0 a2 t225 _ A56.out).mono ?_); rintro e w58 ⟨rfl, hb⟩; refine ⟨_, rfl, ?_⟩; have n0_ := Aside0.mk (below_step (by repeat (first | (with_reducible first | exact HB.out | apply below_alloc | apply pw_below_drewN | apply below_drew1) | exact HB.out)) hb); clear HB; have HB := n0_; clear n0_; (try clear hb); (try clear hb2); (try clear hk); (try clear hi)))
                        go_ret
                        exact ⟨by first | rfl | (simp [errW_none, errW_some] <;> rfl) | (simp only [Opn.bne_nil, Opn.beq_nil]; done) | (simp [Opn.bne_nil, Opn.beq_nil]; done) | (simp [*, errW_none, errW_some] <;> rfl), by repeat (first | (with_reducible first | exact HB.out | apply below_alloc | apply pw_below_drewN | apply below_drew1) | exact HB.out)⟩
                      · rw [if_neg c57] at H
                        have c57b0 : decide (a2 < 1) = false := decide_eq_false c57
                        clear c57
                        by_cases c59 : t205 ≥ 0
                        · rw [if_pos c59] at H
                          have c59b0 : decide (0 ≤ t205) = true := decide_eq_true c59
                          clear c59
                          by_cases c60 : t225 ≥ 0
                          · rw [if_pos c60] at H
                            have c60b0 : decide (0 ≤ t225) = true := decide_eq_true c60
                            clear c60
                            by_cases c61 : (wrap64 (t205 - (wrap64 (t225 * a2)))) ≥ 0
                            · rw [if_pos c61] at H
                              have c61b0 : decide (0 ≤ (wrap64 (t205 - (wrap64 (t225 * a2))))) = true := decide_eq_true c61
                              clear c61
                              by_cases c62 : (wrap64 (t205 - (wrap64 (t225 * a2)))) < a2
                              · rw [if_pos c62] at H
                                have c62b0 : decide ((wrap64 (t205 - (wrap64 (t225 * a2)))) < a2) = true := decide_eq_true c62
                                clear c62
                                obtain rfl := Option.some.inj H
                                go_wp2_with (first | ((with_reducible refine gate_callee (f := 20) rfl ?_); refine goesL_ (some 102) rfl rfl Tryd.func20 (by kernel_rfl) rfl #[.int .i64 a0, .int .i64 a2] rfl (by (try simp only [List.map_toArray, List.map_cons, List.map_nil]); first | done | rfl | (simp only [List.length_drop, List.length_take]; rfl)) ?_; (with_reducible refine (fixed_Mean.calls a0 a2 t225 _ A56.out).mono ?_); rintro e w63 ⟨rfl, hb⟩; refine ⟨_, rfl, ?_⟩; have n0_ := Aside0.mk (below_step (by repeat (first | (with_reducible first | exact HB.out | apply below_alloc | apply pw_below_drewN | apply below_drew1) | exact HB.out)) hb); clear HB; have HB := n0_; clear n0_; (try clear hb); (try clear hb2); (try clear hk); (try clear hi)))
                                go_ret
                                exact ⟨by first | rfl | (simp [errW_none, errW_some] <;> rfl) | (simp only [Opn.bne_nil, Opn.beq_nil]; done) | (simp [Opn.bne_nil, Opn.beq_nil]; done) | (simp [*, errW_none, errW_some] <;> rfl), by repeat (first | (with_reducible first | exact HB.out | apply below_alloc | apply pw_below_drewN | apply below_drew1) | exact HB.out)⟩
                              · rw [if_neg c62] at H
                                have c62b0 : decide ((wrap64 (t205 - (wrap64 (t225 * a2)))) < a2) = false := decide_eq_false c62
                                clear c62
                                by_cases c64 : t205 < 0
                                · rw [if_pos c64] at H
                                  have c64b0 : decide (t205 < 0) = true := decide_eq_true c64
                                  clear c64
                                  by_cases c65 : t225 ≤ 0
                                  · rw [if_pos c65] at H
                                    have c65b0 : decide (t225 ≤ 0) = true := decide_eq_true c65
                                    clear c65
                                    by_cases c66 : (wrap64 (t205 - (wrap64 (t225 * a2)))) ≤ 0
                                    · rw [if_pos c66] at H
                                      have c66b0 : decide ((wrap64 (t205 - (wrap64 (t225 * a2)))) ≤ 0) = true := decide_eq_true c66
                                      clear c66
                                      obtain rfl := Option.some.inj H
                                      go_wp2_with (first | ((with_reducible refine gate_callee (f := 20) rfl ?_); refine goesL_ (some 102) rfl rfl Tryd.func20 (by kernel_rfl) rfl #[.int .i64 a0, .int .i64 a2] rfl (by (try simp only [List.map_toArray, List.map_cons, List.map_nil]); first | done | rfl | (simp only [List.length_drop, List.length_take]; rfl)) ?_; (with_reducible refine (fixed_Mean.calls a0 a2 t225 _ A56.out).mono ?_); rintro e w67 ⟨rfl, hb⟩; refine ⟨_, rfl, ?_⟩; have n0_ := Aside0.mk (below_step (by repeat (first | (with_reducible first | exact HB.out | apply below_alloc | apply pw_below_drewN | apply below_drew1) | exact HB.out)) hb); clear HB; have HB := n0_; clear n0_; (try clear hb); (try clear hb2); (try clear hk); (try clear hi)))
                                      go_ret
                                      exact ⟨by first | rfl | (simp [errW_none, errW_some] <;> rfl) | (simp only [Opn.bne_nil, Opn.beq_nil]; done) | (simp [Opn.bne_nil, Opn.beq_nil]; done) | (simp [*, errW_none, errW_some] <;> rfl), by repeat (first | (with_reducible first | exact HB.out | apply below_alloc | apply pw_below_drewN | apply below_drew1) | exact HB.out)⟩
                                    · rw [if_neg c66] at H
                                      have c66b0 : decide ((wrap64 (t205 - (wrap64 (t225 * a2)))) ≤ 0) = false := decide_eq_false c66
                                      clear c66
                                      obtain rfl := Option.some.inj H
                                      go_wp2_with (first | ((with_reducible refine gate_callee (f := 20) rfl ?_); refine goesL_ (some 102) rfl rfl Tryd.func20 (by kernel_rfl) rfl #[.int .i64 a0, .int .i64 a2] rfl (by (try simp only [List.map_toArray, List.map_cons, List.map_nil]); first | done | rfl | (simp only [List.length_drop, List.length_take]; rfl)) ?_; (with_reducible refine (fixed_Mean.calls a0 a2 t225 _ A56.out).mono ?_); rintro e w68 ⟨rfl, hb⟩; refine ⟨_, rfl, ?_⟩; have n0_ := Aside0.mk (below_step (by repeat (first | (with_reducible first | exact HB.out | apply below_alloc | apply pw_below_drewN | apply below_drew1) | exact HB.out)) hb); clear HB; have HB := n0_; clear n0_; (try clear hb); (try clear hb2); (try clear hk); (try clear hi)))
                                      go_ret
                                      exact ⟨by first | rfl | (simp [errW_none, errW_some] <;> rfl) | (simp only [Opn.bne_nil, Opn.beq_nil]; done) | (simp [Opn.bne_nil, Opn.beq_nil]; done) | (simp [*, errW_none, errW_some] <;> rfl), by repeat (first | (with_reducible first | exact HB.out | apply below_alloc | apply pw_below_drewN | apply below_drew1) | exact HB.out)⟩
                                  · rw [if_neg c65] at H
                                    have c65b0 : decide (t225 ≤ 0) = false := decide_eq_false c65
                                    clear c65
                                    obtain rfl := Option.some.inj H
                                    go_wp2_with (first | ((with_reducible refine gate_callee (f := 20) rfl ?_); refine goesL_ (some 102) rfl rfl Tryd.func20 (by kernel_rfl) rfl #[.int .i64 a0, .int .i64 a2] rfl (by (try simp only [List.map_toArray, List.map_cons, List.map_nil]); first | done | rfl | (simp only [List.length_drop, List.length_take]; rfl)) ?_; (with_reducible refine (fixed_Mean.calls a0 a2 t225 _ A56.out).mono ?_); rintro e w69 ⟨rfl, hb⟩; refine ⟨_, rfl, ?_⟩; have n0_ := Aside0.mk (below_step (by repeat (first | (with_reducible first | exact HB.out | apply below_alloc | apply pw_below_drewN | apply below_drew1) | exact HB.out)) hb); clear HB; have HB := n0_; clear n0_; (try clear hb); (try clear hb2); (try clear hk); (try clear hi)))
                                    go_ret
                                    exact ⟨by first | rfl | (simp [errW_none, errW_some] <;> rfl) | (simp only [Opn.bne_nil, Opn.beq_nil]; done) | (simp [Opn.bne_nil, Opn.beq_nil]; done) | (simp [*, errW_none, errW_some] <;> rfl), by repeat (first | (with_reducible first | exact HB.out | apply below_alloc | apply pw_below_drewN | apply below_drew1) | exact HB.out)⟩
                                · rw [if_neg c64] at H
                                  have c64b0 : decide (t205 < 0) = false := decide_eq_false c64
                                  clear c64
                                  obtain rfl := Option.some.inj H
                                  go_wp2_with (first | ((with_reducible refine gate_callee (f := 20) rfl ?_); refine goesL_ (some 102) rfl rfl Tryd.func20 (by kernel_rfl) rfl #[.int .i64 a0, .int .i64 a2] rfl (by (try simp only [List.map_toArray, List.map_cons, List.map_nil]); first | done | rfl | (simp only [List.length_drop, List.length_take]; rfl)) ?_; (with_reducible refine (fixed_Mean.calls a0 a2 t225 _ A56.out).mono ?_); rintro e w70 ⟨rfl, hb⟩; refine ⟨_, rfl, ?_⟩; have n0_ := Aside0.mk (below_step (by repeat (first | (with_reducible first | exact HB.out | apply below_alloc | apply pw_below_drewN | apply below_drew1) | exact HB.out)) hb); clear HB; have HB := n0_; clear n0_; (try clear hb); (try clear hb2); (try clear hk); (try clear hi)))
                                  go_ret
                                  exact ⟨by first | rfl | (simp [errW_none, errW_some] <;> rfl) | (simp only [Opn.bne_nil, Opn.beq_nil]; done) | (simp [Opn.bne_nil, Opn.beq_nil]; done) | (simp [*, errW_none, errW_some] <;> rfl), by repeat (first | (with_reducible first | exact HB.out | apply below_alloc | apply pw_below_drewN | apply below_drew1) | exact HB.out)⟩
                            · rw [if_neg c61] at H
                              have c61b0 : decide (0 ≤ (wrap64 (t205 - (wrap64 (t225 * a2))))) = false := decide_eq_false c61
                              clear c61
                              by_cases c71 : t205 < 0
                              · rw [if_pos c71] at H
                                have c71b0 : decide (t205 < 0) = true := decide_eq_true c71
                                clear c71
                                by_cases c72 : t225 ≤ 0
                                · rw [if_pos c72] at H
                                  have c72b0 : decide (t225 ≤ 0) = true := decide_eq_true c72
                                  clear c72
                                  by_cases c73 : (wrap64 (t205 - (wrap64 (t225 * a2)))) ≤ 0
                                  · rw [if_pos c73] at H
                                    have c73b0 : decide ((wrap64 (t205 - (wrap64 (t225 * a2)))) ≤ 0) = true := decide_eq_true c73
                                    clear c73
                                    obtain rfl := Option.some.inj H
                                    go_wp2_with (first | ((with_reducible refine gate_callee (f := 20) rfl ?_); refine goesL_ (some 102) rfl rfl Tryd.func20 (by kernel_rfl) rfl #[.int .i64 a0, .int .i64 a2] rfl (by (try simp only [List.map_toArray, List.map_cons, List.map_nil]); first | done | rfl | (simp only [List.length_drop, List.length_take]; rfl)) ?_; (with_reducible refine (fixed_Mean.calls a0 a2 t225 _ A56.out).mono ?_); rintro e w74 ⟨rfl, hb⟩; refine ⟨_, rfl, ?_⟩; have n0_ := Aside0.mk (below_step (by repeat (first | (with_reducible first | exact HB.out | apply below_alloc | apply pw_below_drewN | apply below_drew1) | exact HB.out)) hb); clear HB; have HB := n0_; clear n0_; (try clear hb); (try clear hb2); (try clear hk); (try clear hi)))
                                    go_ret
                                    exact ⟨by first | rfl | (simp [errW_none, errW_some] <;> rfl) | (simp only [Opn.bne_nil, Opn.beq_nil]; done) | (simp [Opn.bne_nil, Opn.beq_nil]; done) | (simp [*, errW_none, errW_some] <;> rfl), by repeat (first | (with_reducible first | exact HB.out | apply below_alloc | apply pw_below_drewN | apply below_drew1) | exact HB.out)⟩
                                  · rw [if_neg c73] at H
                                    have c73b0 : decide ((wrap64 (t205 - (wrap64 (t225 * a2)))) ≤ 0) = false := decide_eq_false c73
                                    clear c73
                                    obtain rfl := Option.some.inj H
                                    go_wp2_with (first | ((with_reducible refine gate_callee (f := 20) rfl ?_); refine goesL_ (some 102) rfl rfl Tryd.func20 (by kernel_rfl) rfl #[.int .i64 a0, .int .i64 a2] rfl (by (try simp only [List.map_toArray, List.map_cons, List.map_nil]); first | done | rfl | (simp only [List.length_drop, List.length_take]; rfl)) ?_; (with_reducible refine (fixed_Mean.calls a0 a2 t225 _ A56.out).mono ?_); rintro e w75 ⟨rfl, hb⟩; refine ⟨_, rfl, ?_⟩; have n0_ := Aside0.mk (below_step (by repeat (first | (with_reducible first | exact HB.out | apply below_alloc | apply pw_below_drewN | apply below_drew1) | exact HB.out)) hb); clear HB; have HB := n0_; clear n0_; (try clear hb); (try clear hb2); (try clear hk); (try clear hi)))
                                    go_ret
                                    exact ⟨by first | rfl | (simp [errW_none, errW_some] <;> rfl) | (simp only [Opn.bne_nil, Opn.beq_nil]; done) | (simp [Opn.bne_nil, Opn.beq_nil]; done) | (simp [*, errW_none, errW_some] <;> rfl), by repeat (first | (with_reducible first | exact HB.out | apply below_alloc | apply pw_below_drewN | apply below_drew1) | exact HB.out)⟩
                                · rw [if_neg c72] at H
                                  have c72b0 : decide (t225 ≤ 0) = false := decide_eq_false c72
                                  clear c72
                                  obtain rfl := Option.some.inj H
                                  go_wp2_with (first | ((with_reducible refine gate_callee (f := 20) rfl ?_); refine goesL_ (some 102) rfl rfl Tryd.func20 (by kernel_rfl) rfl #[.int .i64 a0, .int .i64 a2] rfl (by (try simp only [List.map_toArray, List.map_cons, List.map_nil]); first | done | rfl | (simp only [List.length_drop, List.length_take]; rfl)) ?_; (with_reducible refine (fixed_Mean.calls a0 a2 t225 _ A56.out).mono ?_); rintro e w76 ⟨rfl, hb⟩; refine ⟨_, rfl, ?_⟩; have n0_ := Aside0.mk (below_step (by repeat (first | (with_reducible first | exact HB.out | apply below_alloc | apply pw_below_drewN | apply below_drew1) | exact HB.out)) hb); clear HB; have HB := n0_; clear n0_; (try clear hb); (try clear hb2); (try clear hk); (try clear hi)))
                                  go_ret
                                  exact ⟨by first | rfl | (simp [errW_none, errW_some] <;> rfl) | (simp only [Opn.bne_nil, Opn.beq_nil]; done) | (simp [Opn.bne_nil, Opn.beq_nil]; done) | (simp [*, errW_none, errW_some] <;> rfl), by repeat (first | (with_reducible first | exact HB.out | apply below_alloc | apply pw_below_drewN | apply below_drew1) | exact HB.out)⟩
                              · rw [if_neg c71] at H
                                have c71b0 : decide (t205 < 0) = false := decide_eq_false c71
                                clear c71
                                obtain rfl := Option.some.inj H
                                go_wp2_with (first | ((with_reducible refine gate_callee (f := 20) rfl ?_); refine goesL_ (some 102) rfl rfl Tryd.func20 (by kernel_rfl) rfl #[.int .i64 a0, .int .i64 a2] rfl (by (try simp only [List.map_toArray, List.map_cons, List.map_nil]); first | done | rfl | (simp only [List.length_drop, List.length_take]; rfl)) ?_; (with_reducible refine (fixed_Mean.calls a0 a2 t225 _ A56.out).mono ?_); rintro e w77 ⟨rfl, hb⟩; refine ⟨_, rfl, ?_⟩; have n0_ := Aside0.mk (below_step (by repeat (first | (with_reducible first | exact HB.out | apply below_alloc | apply pw_below_drewN | apply below_drew1) | exact HB.out)) hb); clear HB; have HB := n0_; clear n0_; (try clear hb); (try clear hb2); (try clear hk); (try clear hi)))
                                go_ret
                                exact ⟨by first | rfl | (simp [errW_none, errW_some] <;> rfl) | (simp only [Opn.bne_nil, Opn.beq_nil]; done) | (simp [Opn.bne_nil, Opn.beq_nil]; done) | (simp [*, errW_none, errW_some] <;> rfl), by repeat (first | (with_reducible first | exact HB.out | apply below_alloc | apply pw_below_drewN | apply below_drew1) | exact HB.out)⟩
                          · rw [if_neg c60] at H
                            have c60b0 : decide (0 ≤ t225) = false := decide_eq_false c60
                            clear c60
                            by_cases c78 : t205 < 0
                            · rw [if_pos c78] at H
                              have c78b0 : decide (t205 < 0) = true := decide_eq_true c78
                              clear c78
                              by_cases c79 : t225 ≤ 0
                              · rw [if_pos c79] at H
                                have c79b0 : decide (t225 ≤ 0) = true := decide_eq_true c79
                                clear c79
                                by_cases c80 : (wrap64 (t205 - (wrap64 (t225 * a2)))) ≤ 0
                                · rw [if_pos c80] at H
                                  have c80b0 : decide ((wrap64 (t205 - (wrap64 (t225 * a2)))) ≤ 0) = true := decide_eq_true c80
                                  clear c80
                                  obtain rfl := Option.some.inj H
                                  go_wp2_with (first | ((with_reducible refine gate_callee (f := 20) rfl ?_); refine goesL_ (some 102) rfl rfl Tryd.func20 (by kernel_rfl) rfl #[.int .i64 a0, .int .i64 a2] rfl (by (try simp only [List.map_toArray, List.map_cons, List.map_nil]); first | done | rfl | (simp only [List.length_drop, List.length_take]; rfl)) ?_; (with_reducible refine (fixed_Mean.calls a0 a2 t225 _ A56.out).mono ?_); rintro e w81 ⟨rfl, hb⟩; refine ⟨_, rfl, ?_⟩; have n0_ := Aside0.mk (below_step (by repeat (first | (with_reducible first | exact HB.out | apply below_alloc | apply pw_below_drewN | apply below_drew1) | exact HB.out)) hb); clear HB; have HB := n0_; clear n0_; (try clear hb); (try clear hb2); (try clear hk); (try clear hi)))
                                  go_ret
                                  exact ⟨by first | rfl | (simp [errW_none, errW_some] <;> rfl) | (simp only [Opn.bne_nil, Opn.beq_nil]; done) | (simp [Opn.bne_nil, Opn.beq_nil]; done) | (simp [*, errW_none, errW_some] <;> rfl), by repeat (first | (with_reducible first | exact HB.out | apply below_alloc | apply pw_below_drewN | apply below_drew1) | exact HB.out)⟩
                                · rw [if_neg c80] at H
                                  have c80b0 : decide ((wrap64 (t205 - (wrap64 (t225 * a2)))) ≤ 0) = false := decide_eq_false c80
                                  clear c80
                                  obtain rfl := Option.some.inj H
                                  go_wp2_with (first | ((with_reducible refine gate_callee (f := 20) rfl ?_); refine goesL_ (some 102) rfl rfl Tryd.func20 (by kernel_rfl) rfl #[.int .i64 a0, .int .i64 a2] rfl (by (try simp only [List.map_toArray, List.map_cons, List.map_nil]); first | done | rfl | (simp only [List.length_drop, List.length_take]; rfl)) ?_; (with_reducible refine (fixed_Mean.calls a0 a2 t225 _ A56.out).mono ?_); rintro e w82 ⟨rfl, hb⟩; refine ⟨_, rfl, ?_⟩; have n0_ := Aside0.mk (below_step (by repeat (first | (with_reducible first | exact HB.out | apply below_alloc | apply pw_below_drewN | apply below_drew1) | exact HB.out)) hb); clear HB; have HB := n0_; clear n0_; (try clear hb); (try clear hb2); (try clear hk); (try clear hi)))
                                  go_ret
                                  exact ⟨by first | rfl | (simp [errW_none, errW_some] <;> rfl) | (simp only [Opn.bne_nil, Opn.beq_nil]; done) | (simp [Opn.bne_nil, Opn.beq_nil]; done) | (simp [*, errW_none, errW_some] <;> rfl), by repeat (first | (with_reducible first | exact HB.out | apply below_alloc | apply pw_below_drewN | apply below_drew1) | exact HB.out)⟩
                              · rw [if_neg c79] at H
                                have c79b0 : decide (t225 ≤ 0) = false := decide_eq_false c79
                                clear c79
                                obtain rfl := Option.some.inj H
                                go_wp2_with (first | ((with_reducible refine gate_callee (f := 20) rfl ?_); refine goesL_ (some 102) rfl rfl Tryd.func20 (by kernel_rfl) rfl #[.int .i64 a0, .int .i64 a2] rfl (by (try simp only [List.map_toArray, List.map_cons, List.map_nil]); first | done | rfl | (simp only [List.length_drop, List.length_take]; rfl)) ?_; (with_reducible refine (fixed_Mean.calls a0 a2 t225 _ A56.out).mono ?_); rintro e w83 ⟨rfl, hb⟩; refine ⟨_, rfl, ?_⟩; have n0_ := Aside0.mk (below_step (by repeat (first | (with_reducible first | exact HB.out | apply below_alloc | apply pw_below_drewN | apply below_drew1) | exact HB.out)) hb); clear HB; have HB := n0_; clear n0_; (try clear hb); (try clear hb2); (try clear hk); (try clear hi)))
                                go_ret
                                exact ⟨by first | rfl | (simp [errW_none, errW_some] <;> rfl) | (simp only [Opn.bne_nil, Opn.beq_nil]; done) | (simp [Opn.bne_nil, Opn.beq_nil]; done) | (simp [*, errW_none, errW_some] <;> rfl), by repeat (first | (with_reducible first | exact HB.out | apply below_alloc | apply pw_below_drewN | apply below_drew1) | exact HB.out)⟩
                            · rw [if_neg c78] at H
                              have c78b0 : decide (t205 < 0) = false := decide_eq_false c78
                              clear c78
                              obtain rfl := Option.some.inj H
                              go_wp2_with (first | ((with_reducible refine gate_callee (f := 20) rfl ?_); refine goesL_ (some 102) rfl rfl Tryd.func20 (by kernel_rfl) rfl #[.int .i64 a0, .int .i64 a2] rfl (by (try simp only [List.map_toArray, List.map_cons, List.map_nil]); first | done | rfl | (simp only [List.length_drop, List.length_take]; rfl)) ?_; (with_reducible refine (fixed_Mean.calls a0 a2 t225 _ A56.out).mono ?_); rintro e w84 ⟨rfl, hb⟩; refine ⟨_, rfl, ?_⟩; have n0_ := Aside0.mk (below_step (by repeat (first | (with_reducible first | exact HB.out | apply below_alloc | apply pw_below_drewN | apply below_drew1) | exact HB.out)) hb); clear HB; have HB := n0_; clear n0_; (try clear hb); (try clear hb2); (try clear hk); (try clear hi)))
                              go_ret
                              exact ⟨by first | rfl | (simp [errW_none, errW_some] <;> rfl) | (simp only [Opn.bne_nil, Opn.beq_nil]; done) | (simp [Opn.bne_nil, Opn.beq_nil]; done) | (simp [*, errW_none, errW_some] <;> rfl), by repeat (first | (with_reducible first | exact HB.out | apply below_alloc | apply pw_below_drewN | apply below_drew1) | exact HB.out)⟩
                        · rw [if_neg c59] at H
                          have c59b0 : decide (0 ≤ t205) = false := decide_eq_false c59
                          clear c59
                          by_cases c85 : t205 < 0
                          · rw [if_pos c85] at H
                            have c85b0 : decide (t205 < 0) = true := decide_eq_true c85
                            clear c85
                            by_cases c86 : t225 ≤ 0
                            · rw [if_pos c86] at H
                              have c86b0 : decide (t225 ≤ 0) = true := decide_eq_true c86
                              clear c86
                              by_cases c87 : (wrap64 (t205 - (wrap64 (t225 * a2)))) ≤ 0
                              · rw [if_pos c87] at H
                                have c87b0 : decide ((wrap64 (t205 - (wrap64 (t225 * a2)))) ≤ 0) = true := decide_eq_true c87
                                clear c87
                                obtain rfl := Option.some.inj H
                                go_wp2_with (first | ((with_reducible refine gate_callee (f := 20) rfl ?_); refine goesL_ (some 102) rfl rfl Tryd.func20 (by kernel_rfl) rfl #[.int .i64 a0, .int .i64 a2] rfl (by (try simp only [List.map_toArray, List.map_cons, List.map_nil]); first | done | rfl | (simp only [List.length_drop, List.length_take]; rfl)) ?_; (with_reducible refine (fixed_Mean.calls a0 a2 t225 _ A56.out).mono ?_); rintro e w88 ⟨rfl, hb⟩; refine ⟨_, rfl, ?_⟩; have n0_ := Aside0.mk (below_step (by repeat (first | (with_reducible first | exact HB.out | apply below_alloc | apply pw_below_drewN | apply below_drew1) | exact HB.out)) hb); clear HB; have HB := n0_; clear n0_; (try clear hb); (try clear hb2); (try clear hk); (try clear hi)))
                                go_ret
                                exact ⟨by first | rfl | (simp [errW_none, errW_some] <;> rfl) | (simp only [Opn.bne_nil, Opn.beq_nil]; done) | (simp [Opn.bne_nil, Opn.beq_nil]; done) | (simp [*, errW_none, errW_some] <;> rfl), by repeat (first | (with_reducible first | exact HB.out | apply below_alloc | apply pw_below_drewN | apply below_drew1) | exact HB.out)⟩
                              · rw [if_neg c87] at H
                                have c87b0 : decide ((wrap64 (t205 - (wrap64 (t225 * a2)))) ≤ 0) = false := decide_eq_false c87
                                clear c87
                                obtain rfl := Option.some.inj H
                                go_wp2_with (first | ((with_reducible refine gate_callee (f := 20) rfl ?_); refine goesL_ (some 102) rfl rfl Tryd.func20 (by kernel_rfl) rfl #[.int .i64 a0, .int .i64 a2] rfl (by (try simp only [List.map_toArray, List.map_cons, List.map_nil]); first | done | rfl | (simp only [List.length_drop, List.length_take]; rfl)) ?_; (with_reducible refine (fixed_Mean.calls a0 a2 t225 _ A56.out).mono ?_); rintro e w89 ⟨rfl, hb⟩; refine ⟨_, rfl, ?_⟩; have n0_ := Aside0.mk (below_step (by repeat (first | (with_reducible first | exact HB.out | apply below_alloc | apply pw_below_drewN | apply below_drew1) | exact HB.out)) hb); clear HB; have HB := n0_; clear n0_; (try clear hb); (try clear hb2); (try clear hk); (try clear hi)))
                                go_ret
                                exact ⟨by first | rfl | (simp [errW_none, errW_some] <;> rfl) | (simp only [Opn.bne_nil, Opn.beq_nil]; done) | (simp [Opn.bne_nil, Opn.beq_nil]; done) | (simp [*, errW_none, errW_some] <;> rfl), by repeat (first | (with_reducible first | exact HB.out | apply below_alloc | apply pw_below_drewN | apply below_drew1) | exact HB.out)⟩
                            · rw [if_neg c86] at H
                              have c86b0 : decide (t225 ≤ 0) = false := decide_eq_false c86
                              clear c86
                              obtain rfl := Option.some.inj H
                              go_wp2_with (first | ((with_reducible refine gate_callee (f := 20) rfl ?_); refine goesL_ (some 102) rfl rfl Tryd.func20 (by kernel_rfl) rfl #[.int .i64 a0, .int .i64 a2] rfl (by (try simp only [List.map_toArray, List.map_cons, List.map_nil]); first | done | rfl | (simp only [List.length_drop, List.length_take]; rfl)) ?_; (with_reducible refine (fixed_Mean.calls a0 a2 t225 _ A56.out).mono ?_); rintro e w90 ⟨rfl, hb⟩; refine ⟨_, rfl, ?_⟩; have n0_ := Aside0.mk (below_step (by repeat (first | (with_reducible first | exact HB.out | apply below_alloc | apply pw_below_drewN | apply below_drew1) | exact HB.out)) hb); clear HB; have HB := n0_; clear n0_; (try clear hb); (try clear hb2); (try clear hk); (try clear hi)))
                              go_ret
                              exact ⟨by first | rfl | (simp [errW_none, errW_some] <;> rfl) | (simp only [Opn.bne_nil, Opn.beq_nil]; done) | (simp [Opn.bne_nil, Opn.beq_nil]; done) | (simp [*, errW_none, errW_some] <;> rfl), by repeat (first | (with_reducible first | exact HB.out | apply below_alloc | apply pw_below_drewN | apply below_drew1) | exact HB.out)⟩
                          · rw [if_neg c85] at H
                            have c85b0 : decide (t205 < 0) = false := decide_eq_false c85
                            clear c85
                            obtain rfl := Option.some.inj H
                            go_wp2_with (first | ((with_reducible refine gate_callee (f := 20) rfl ?_); refine goesL_ (some 102) rfl rfl Tryd.func20 (by kernel_rfl) rfl #[.int .i64 a0, .int .i64 a2] rfl (by (try simp only [List.map_toArray, List.map_cons, List.map_nil]); first | done | rfl | (simp only [List.length_drop, List.length_take]; rfl)) ?_; (with_reducible refine (fixed_Mean.calls a0 a2 t225 _ A56.out).mono ?_); rintro e w91 ⟨rfl, hb⟩; refine ⟨_, rfl, ?_⟩; have n0_ := Aside0.mk (below_step (by repeat (first | (with_reducible first | exact HB.out | apply below_alloc | apply pw_below_drewN | apply below_drew1) | exact HB.out)) hb); clear HB; have HB := n0_; clear n0_; (try clear hb); (try clear hb2); (try clear hk); (try clear hi)))
                            go_ret
                            exact ⟨by first | rfl | (simp [errW_none, errW_some] <;> rfl) | (simp only [Opn.bne_nil, Opn.beq_nil]; done) | (simp [Opn.bne_nil, Opn.beq_nil]; done) | (simp [*, errW_none, errW_some] <;> rfl), by repeat (first | (with_reducible first | exact HB.out | apply below_alloc | apply pw_below_drewN | apply below_drew1) | exact HB.out)⟩
  · replace c5 := Bool.eq_false_iff.mpr c5
    subst c5
    have H1 : (some false) = some r := by rw [if_neg (show ¬ (false = true) by decide)] at H; exact H
    clear H
    have H := H1
    clear H1
    obtain rfl := Option.some.inj H
    go_enter Tryd.func9, Tryd.ntmps9
    go_wp2_with (first | ((with_reducible refine gate_callee (f := 15) rfl ?_); refine goesL_ (some 13) rfl rfl Tryd.func15 (by kernel_rfl) rfl #[] rfl (by (try simp only [List.map_toArray, List.map_cons, List.map_nil]); first | done | rfl | (simp only [List.length_drop, List.length_take]; rfl)) ?_; (with_reducible refine (tocsinlaw01_awake.calls k  false _ A4.out ?sideTab).mono ?_); (case sideTab => repeat (first | exact (tb_below HTab.out HB.out) | exact HTab.out | (with_reducible refine tb_alloc ?_ _) | (with_reducible refine tb_drewN ?_ _) | (with_reducible refine tb_drew ?_))); rintro e w92 ⟨rfl, hb⟩; refine ⟨_, rfl, ?_⟩; have n0_ := Aside0.mk (below_step (by repeat (first | (with_reducible first | exact HB.out | apply below_alloc | apply pw_below_drewN | apply below_drew1) | exact HB.out)) hb); clear HB; have HB := n0_; clear n0_; (try clear hb); (try clear hb2); (try clear hk); (try clear hi)))
    go_ret
    exact ⟨by first | rfl | (simp [errW_none, errW_some] <;> rfl) | (simp only [Opn.bne_nil, Opn.beq_nil]; done) | (simp [Opn.bne_nil, Opn.beq_nil]; done) | (simp [*, errW_none, errW_some] <;> rfl), by repeat (first | (with_reducible first | exact HB.out | apply below_alloc | apply pw_below_drewN | apply below_drew1) | exact HB.out)⟩

/-- THE ONE PURE STATEMENT of tocsinlaw01_FixedWithin: yours. -/
def tocsinlaw01_FixedWithin.Pure : Prop := ∀ (a0 : Int) (a1 : Int) (a2 : Int), (Lit.int .i64 a0).wf = true → (Lit.int .i64 a1).wf = true → (Lit.int .i64 a2).wf = true → ∃ k, tocsinlaw01_FixedWithin.f k a0 a1 a2 = some true
theorem tocsinlaw01_FixedWithin.walk (P : tocsinlaw01_FixedWithin.Pure) (a0 : Int) (a1 : Int) (a2 : Int) (w : World) (w0 : (Lit.int .i64 a0).wf = true) (w1 : (Lit.int .i64 a1).wf = true) (w2 : (Lit.int .i64 a2).wf = true) (hTab : Tb w) :
    Calls Tryd.prog 9 #[.int .i64 a0, .int .i64 a1, .int .i64 a2] w fun e w' => e = .returned (.bool true) ∧ Below w.heap.size w w' := by
  obtain ⟨k, h⟩ := P a0 a1 a2 w0 w1 w2
  refine (tocsinlaw01_FixedWithin.calls k a0 a1 a2 true w h hTab).mono ?_
  rintro e w' ⟨rfl, hd⟩
  exact ⟨rfl, hd⟩

end Go.Proofs.YtpmehejlamddeaaDoor.Q

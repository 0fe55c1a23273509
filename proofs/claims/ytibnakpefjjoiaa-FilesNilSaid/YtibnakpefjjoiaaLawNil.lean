/- A store that nobody made is none: walked. -/
import Derived.Test.YtibnakpefjjoiaaFileX
namespace Go.Proofs.Ytibnakpefjjoiaa.Fs
open Go.RowKit Go.Proofs.YtibnakpefjjoiaaW.PrintWords Go.Proofs.YtibnakpefjjoiaaW.PrintLast Go.Proofs.YtibnakpefjjoiaaW.PrintMore Go.Proofs.Ytibnakpefjjoiaa.Q Go.Proofs.Ytibnakpefjjoiaa.Own
set_option linter.unusedVariables false
set_option linter.unusedSimpArgs false
attribute [local go_sem ↓] Go.wp_at_zero Go.wp_at_succ

theorem lit_act (w : World) (x : S46) (cs : Array Value) (hx : k46.K w x cs.toList) : Kd.C k46 (w.alloc (.cells cs 46)) (some ⟨w.heap.size, 0, none⟩) 1 [x] := by
  have hx' : k46.K (w.alloc (.cells cs 46)) x cs.toList := Kd.K_below _ ((Below.refl _ w).alloc (Nat.le_refl _) _) hx
  have hr : Reps (k46.K (w.alloc (.cells cs 46))) k46.sz [x] cs.toList := by
    have := Reps.snoc (Reps.none (k46.K (w.alloc (.cells cs 46))) k46.sz) hx' (Kd.K_len _ hx')
    simpa using this
  have hl := OwnRow.lit (e := 46) w 0 hr (Nat.zero_le _) (show 1 ≤ 9223372036854775807 by omega)
  rw [Array.toArray_toList] at hl
  obtain ⟨A, c, e, _, h⟩ := OwnRow.reads hl
  injection e with e1 e2 e3
  subst e1
  exact h
theorem great_one (x : S46) : ∃ r, tocsinlaw03_Great.f 2 [x] = some r ∧ (r = false → x.f1.size ≤ 30000 ∧ x.f2.size ≤ 30000 ∧ x.f3.length ≤ 30000) := by
  unfold tocsinlaw03_Great.f
  rw [if_neg (by simp)]
  unfold tocsinlaw03_Great.l0
  rw [if_pos (by simp), if_pos (by omega)]
  have e : rd_T46 [x] 0 = x := rfl
  rw [e]
  by_cases h3 : (x.f3.length : Int) > 30000
  · rw [if_pos h3]
    exact ⟨true, rfl, fun q => by cases q⟩
  rw [if_neg h3]
  by_cases h1 : (x.f1.size : Int) > 30000
  · rw [if_pos h1]
    exact ⟨true, rfl, fun q => by cases q⟩
  rw [if_neg h1]
  by_cases h2 : (x.f2.size : Int) > 30000
  · rw [if_pos h2]
    exact ⟨true, rfl, fun q => by cases q⟩
  rw [if_neg h2]
  unfold tocsinlaw03_Great.l0
  rw [if_neg (by rw [wrap_id (by omega) (by omega)]; simp)]
  exact ⟨_, rfl, fun _ => by omega⟩
set_option maxHeartbeats 8000000 in
set_option maxRecDepth 100000 in
theorem nil_law (x : S46) (cs : Array Value) (W : World) (hx : k46.K W x cs.toList) :
    Calls Try.prog 8 #[.agg cs] W fun e w' => e = .returned (.bool true) ∧ Below W.heap.size W w' := by
  obtain ⟨A3, c3, A5, c5, ecs, l3, g3, l5, g5⟩ := k46_open hx
  obtain rfl : cs = #[.int .u8 x.f0, .string x.f1, .string x.f2, .slice A3 x.f3.length c3, .int .i64 x.f4, .slice A5 x.f5.length c5] := by apply Array.ext'; exact ecs
  obtain ⟨r, hr, hrf⟩ := great_one x
  have hb1 : Below W.heap.size W (W.alloc (.cells #[.int .u8 x.f0, .string x.f1, .string x.f2, .slice A3 x.f3.length c3, .int .i64 x.f4, .slice A5 x.f5.length c5] 46)) := (Below.refl _ W).alloc (Nat.le_refl _) _
  have HG : Aside0 (Calls Try.prog 21 #[.slice (some ⟨W.heap.size + 1, 0, none⟩) 1 1] ((W.alloc (.cells #[.int .u8 x.f0, .string x.f1, .string x.f2, .slice A3 x.f3.length c3, .int .i64 x.f4, .slice A5 x.f5.length c5] 46)).alloc (.cells #[.int .u8 x.f0, .string x.f1, .string x.f2, .slice A3 x.f3.length c3, .int .i64 x.f4, .slice A5 x.f5.length c5] 46)) fun e w' => e = .returned (.bool r) ∧ Drawn0 ((W.alloc (.cells #[.int .u8 x.f0, .string x.f1, .string x.f2, .slice A3 x.f3.length c3, .int .i64 x.f4, .slice A5 x.f5.length c5] 46)).alloc (.cells #[.int .u8 x.f0, .string x.f1, .string x.f2, .slice A3 x.f3.length c3, .int .i64 x.f4, .slice A5 x.f5.length c5] 46)) w') := ⟨by
    have h0 := lit_act _ x #[.int .u8 x.f0, .string x.f1, .string x.f2, .slice A3 x.f3.length c3, .int .i64 x.f4, .slice A5 x.f5.length c5] (Kd.K_below _ hb1 hx)
    rw [World.size_alloc] at h0
    exact tocsinlaw03_Great.calls 2 _ 1 [x] r _ h0 (by simp) hr⟩
  clear hr hx ecs g3 g5 l3 l5
  obtain ⟨x0, x1, x2, x3, x4, x5⟩ := x
  dsimp only at HG hrf hb1 ⊢
  generalize x3.length = n3 at HG hrf hb1 ⊢
  generalize x5.length = n5 at HG hb1 ⊢
  have HRF := Aside0.mk hrf
  clear hrf hb1
  go_enter Try.func8, Try.ntmps8
  go_wp2_with fail
  refine HG.out.mono ?_
  rintro e w1 ⟨rfl, ⟨nd, rfl⟩⟩
  clear HG
  cases r
  · have hbw : Below W.heap.size W (((((W.alloc (.cells #[.int .u8 x0, .string x1, .string x2, .slice A3 n3 c3, .int .i64 x4, .slice A5 n5 c5] 46)).alloc (.cells #[.int .u8 x0, .string x1, .string x2, .slice A3 n3 c3, .int .i64 x4, .slice A5 n5 c5] 46)).drewN nd).alloc (.cells #[.map none, .int .i64 0, .int .i64 0] 62)).alloc (.cells #[.pointer none, .pointer (some ⟨W.heap.size + 1 + 1, 0, none⟩)] 24)) := below_alloc (below_alloc (pw_below_drewN (below_alloc (below_alloc (Below.refl _ _) _) _) _) _) _
    have k1 : (((((W.alloc (.cells #[.int .u8 x0, .string x1, .string x2, .slice A3 n3 c3, .int .i64 x4, .slice A5 n5 c5] 46)).alloc (.cells #[.int .u8 x0, .string x1, .string x2, .slice A3 n3 c3, .int .i64 x4, .slice A5 n5 c5] 46)).drewN nd).alloc (.cells #[.map none, .int .i64 0, .int .i64 0] 62)).alloc (.cells #[.pointer none, .pointer (some ⟨W.heap.size + 1 + 1, 0, none⟩)] 24)).cell? ⟨W.heap.size, 1, none⟩ = some (.string x1) := by simp [go_sem]
    have k2 : (((((W.alloc (.cells #[.int .u8 x0, .string x1, .string x2, .slice A3 n3 c3, .int .i64 x4, .slice A5 n5 c5] 46)).alloc (.cells #[.int .u8 x0, .string x1, .string x2, .slice A3 n3 c3, .int .i64 x4, .slice A5 n5 c5] 46)).drewN nd).alloc (.cells #[.map none, .int .i64 0, .int .i64 0] 62)).alloc (.cells #[.pointer none, .pointer (some ⟨W.heap.size + 1 + 1, 0, none⟩)] 24)).cell? ⟨W.heap.size, 2, none⟩ = some (.string x2) := by simp [go_sem]
    have k3 : (((((W.alloc (.cells #[.int .u8 x0, .string x1, .string x2, .slice A3 n3 c3, .int .i64 x4, .slice A5 n5 c5] 46)).alloc (.cells #[.int .u8 x0, .string x1, .string x2, .slice A3 n3 c3, .int .i64 x4, .slice A5 n5 c5] 46)).drewN nd).alloc (.cells #[.map none, .int .i64 0, .int .i64 0] 62)).alloc (.cells #[.pointer none, .pointer (some ⟨W.heap.size + 1 + 1, 0, none⟩)] 24)).cell? ⟨W.heap.size, 3, none⟩ = some (.slice A3 n3 c3) := by simp [go_sem]
    have k4 : (((((W.alloc (.cells #[.int .u8 x0, .string x1, .string x2, .slice A3 n3 c3, .int .i64 x4, .slice A5 n5 c5] 46)).alloc (.cells #[.int .u8 x0, .string x1, .string x2, .slice A3 n3 c3, .int .i64 x4, .slice A5 n5 c5] 46)).drewN nd).alloc (.cells #[.map none, .int .i64 0, .int .i64 0] 62)).alloc (.cells #[.pointer none, .pointer (some ⟨W.heap.size + 1 + 1, 0, none⟩)] 24)).cell? ⟨W.heap.size, 4, none⟩ = some (.int .i64 x4) := by simp [go_sem]
    have k5 : (((((W.alloc (.cells #[.int .u8 x0, .string x1, .string x2, .slice A3 n3 c3, .int .i64 x4, .slice A5 n5 c5] 46)).alloc (.cells #[.int .u8 x0, .string x1, .string x2, .slice A3 n3 c3, .int .i64 x4, .slice A5 n5 c5] 46)).drewN nd).alloc (.cells #[.map none, .int .i64 0, .int .i64 0] 62)).alloc (.cells #[.pointer none, .pointer (some ⟨W.heap.size + 1 + 1, 0, none⟩)] 24)).cell? ⟨W.heap.size, 5, none⟩ = some (.slice A5 n5 c5) := by simp [go_sem]
    have k6 : (((((W.alloc (.cells #[.int .u8 x0, .string x1, .string x2, .slice A3 n3 c3, .int .i64 x4, .slice A5 n5 c5] 46)).alloc (.cells #[.int .u8 x0, .string x1, .string x2, .slice A3 n3 c3, .int .i64 x4, .slice A5 n5 c5] 46)).drewN nd).alloc (.cells #[.map none, .int .i64 0, .int .i64 0] 62)).alloc (.cells #[.pointer none, .pointer (some ⟨W.heap.size + 1 + 1, 0, none⟩)] 24)).cell? ⟨W.heap.size + 1 + 1, 0, none⟩ = some (.map none) := by simp [go_sem]
    have k7 : (((((W.alloc (.cells #[.int .u8 x0, .string x1, .string x2, .slice A3 n3 c3, .int .i64 x4, .slice A5 n5 c5] 46)).alloc (.cells #[.int .u8 x0, .string x1, .string x2, .slice A3 n3 c3, .int .i64 x4, .slice A5 n5 c5] 46)).drewN nd).alloc (.cells #[.map none, .int .i64 0, .int .i64 0] 62)).alloc (.cells #[.pointer none, .pointer (some ⟨W.heap.size + 1 + 1, 0, none⟩)] 24)).cell? ⟨W.heap.size + 1 + 1 + 1, 0, none⟩ = some (.pointer none) := by simp [go_sem]
    have k8 : (((((W.alloc (.cells #[.int .u8 x0, .string x1, .string x2, .slice A3 n3 c3, .int .i64 x4, .slice A5 n5 c5] 46)).alloc (.cells #[.int .u8 x0, .string x1, .string x2, .slice A3 n3 c3, .int .i64 x4, .slice A5 n5 c5] 46)).drewN nd).alloc (.cells #[.map none, .int .i64 0, .int .i64 0] 62)).alloc (.cells #[.pointer none, .pointer (some ⟨W.heap.size + 1 + 1, 0, none⟩)] 24)).cell? ⟨W.heap.size + 1 + 1 + 1, 1, none⟩ = some (.pointer (some ⟨W.heap.size + 1 + 1, 0, none⟩)) := by simp [go_sem]
    have HR : Aside0 (∀ k : Nat, k < 2 → ∃ q, (((((W.alloc (.cells #[.int .u8 x0, .string x1, .string x2, .slice A3 n3 c3, .int .i64 x4, .slice A5 n5 c5] 46)).alloc (.cells #[.int .u8 x0, .string x1, .string x2, .slice A3 n3 c3, .int .i64 x4, .slice A5 n5 c5] 46)).drewN nd).alloc (.cells #[.map none, .int .i64 0, .int .i64 0] 62)).alloc (.cells #[.pointer none, .pointer (some ⟨W.heap.size + 1 + 1, 0, none⟩)] 24)).cell? ((⟨W.heap.size + 1 + 1 + 1, 0, none⟩ : Addr).add k) = some (.pointer q) ∧ DeadS (((((W.alloc (.cells #[.int .u8 x0, .string x1, .string x2, .slice A3 n3 c3, .int .i64 x4, .slice A5 n5 c5] 46)).alloc (.cells #[.int .u8 x0, .string x1, .string x2, .slice A3 n3 c3, .int .i64 x4, .slice A5 n5 c5] 46)).drewN nd).alloc (.cells #[.map none, .int .i64 0, .int .i64 0] 62)).alloc (.cells #[.pointer none, .pointer (some ⟨W.heap.size + 1 + 1, 0, none⟩)] 24)) (.pointer q)) := ⟨fun k hk => by
      match k, hk with
      | 0, _ => exact ⟨none, k7, .inl rfl⟩
      | 1, _ => exact ⟨_, k8, .inr ⟨_, rfl, k6⟩⟩⟩
    clear k6 k7 k8
    go_wp2_with fail
    generalize hw0 : (((((W.alloc (.cells #[.int .u8 x0, .string x1, .string x2, .slice A3 n3 c3, .int .i64 x4, .slice A5 n5 c5] 46)).alloc (.cells #[.int .u8 x0, .string x1, .string x2, .slice A3 n3 c3, .int .i64 x4, .slice A5 n5 c5] 46)).drewN nd).alloc (.cells #[.map none, .int .i64 0, .int .i64 0] 62)).alloc (.cells #[.pointer none, .pointer (some ⟨W.heap.size + 1 + 1, 0, none⟩)] 24)) = w0 at hbw k1 k2 k3 k4 k5 HR ⊢
    generalize (⟨W.heap.size + 1 + 1 + 1, 0, none⟩ : Addr) = ar at HR ⊢
    have HBW := Aside0.mk hbw
    clear hbw hw0
    generalize W.heap.size + 1 + 1 = bs
    generalize W.heap.size = g at k1 k2 k3 k4 k5 ⊢
    have K1 := Aside0.mk k1
    have K2 := Aside0.mk k2
    have K3 := Aside0.mk k3
    have K4 := Aside0.mk k4
    have K5 := Aside0.mk k5
    clear k1 k2 k3 k4 k5
    go_loopw [5] (fun i wr => ∃ k : Nat, i = .int .i64 k ∧ k ≤ 2 ∧ Aside0 (Below w0.heap.size w0 wr)) (fun i _ => 2 - (intOf i).toNat)
    case atStart => exact ⟨0, rfl, by omega, ⟨Below.refl _ _⟩⟩
    case round =>
      obtain ⟨k, rfl, hk, HB⟩ := hrel
      by_cases hlt : k < 2
      · have d1 : decide ((k : Int) < 2) = true := decide_eq_true (by omega)
        have d2 : decide (0 ≤ (k : Int)) = true := decide_eq_true (by omega)
        obtain ⟨q, hq, hd⟩ := HR.out k hlt
        have hq := pw_cell_below HB.out hq
        have HD := Aside0.mk hd
        clear hd
        have k1 := pw_cell_below HB.out K1.out
        have k2 := pw_cell_below HB.out K2.out
        have k3 := pw_cell_below HB.out K3.out
        have k4 := pw_cell_below HB.out K4.out
        have k5 := pw_cell_below HB.out K5.out
        go_wp2_with fail
        refine (fdead_read (HD.out.below HB.out) _).mono ?_
        rintro e w12 ⟨rfl, hb⟩
        have HW2 := Aside0.mk (HB.out.trans (hb.mono HB.out.size))
        clear hb k1 k2 k3 k4 k5 hq
        have k1 := pw_cell_below HW2.out K1.out
        have k2 := pw_cell_below HW2.out K2.out
        have k3 := pw_cell_below HW2.out K3.out
        have k4 := pw_cell_below HW2.out K4.out
        have k5 := pw_cell_below HW2.out K5.out
        go_wp2_with fail
        refine (fdead_size (HD.out.below HW2.out) _).mono ?_
        rintro e w13 ⟨rfl, hb⟩
        have HW3 := Aside0.mk (HW2.out.trans (hb.mono HW2.out.size))
        clear hb k1 k2 k3 k4 k5
        have k1 := pw_cell_below HW3.out K1.out
        have k2 := pw_cell_below HW3.out K2.out
        have k3 := pw_cell_below HW3.out K3.out
        have k4 := pw_cell_below HW3.out K4.out
        have k5 := pw_cell_below HW3.out K5.out
        go_wp2_with fail
        refine (fdead_synced (HD.out.below HW3.out) _).mono ?_
        rintro e w14 ⟨rfl, hb⟩
        have HW4 := Aside0.mk (HW3.out.trans (hb.mono HW3.out.size))
        clear hb k1 k2 k3 k4 k5
        have k1 := pw_cell_below HW4.out K1.out
        have k2 := pw_cell_below HW4.out K2.out
        have k3 := pw_cell_below HW4.out K3.out
        have k4 := pw_cell_below HW4.out K4.out
        have k5 := pw_cell_below HW4.out K5.out
        go_wp2_with fail
        refine (fdead_power (HD.out.below HW4.out) _).mono ?_
        rintro e w9 ⟨rfl, rfl⟩
        go_wp2_with fail
        refine (fdead_crash (HD.out.below HW4.out) _).mono ?_
        rintro e w9 ⟨rfl, rfl⟩
        go_wp2_with fail
        refine (fdead_acts (HD.out.below HW4.out)).mono ?_
        rintro e w9 ⟨rfl, rfl⟩
        go_wp2_with fail
        refine (fdead_names (HD.out.below HW4.out)).mono ?_
        rintro e w9 ⟨rfl, rfl⟩
        go_wp2_with fail
        refine (fdead_dead (HD.out.below HW4.out)).mono ?_
        rintro e w9 ⟨rfl, rfl⟩
        go_wp2_with fail
        refine (fdead_append (HD.out.below HW4.out) _ _).mono ?_
        rintro e w9 ⟨rfl, rfl⟩
        go_wp2_with fail
        refine (fdead_sync (HD.out.below HW4.out) _).mono ?_
        rintro e w15 ⟨rfl, hb⟩
        have HW5 := Aside0.mk (HW4.out.trans (hb.mono HW4.out.size))
        clear hb k1 k2 k3 k4 k5
        have k1 := pw_cell_below HW5.out K1.out
        have k2 := pw_cell_below HW5.out K2.out
        have k3 := pw_cell_below HW5.out K3.out
        have k4 := pw_cell_below HW5.out K4.out
        have k5 := pw_cell_below HW5.out K5.out
        go_wp2_with fail
        refine (fdead_trunc (HD.out.below HW5.out) _ _).mono ?_
        rintro e w16 ⟨rfl, hb⟩
        have HW6 := Aside0.mk (HW5.out.trans (hb.mono HW5.out.size))
        clear hb k1 k2 k3 k4 k5
        have k1 := pw_cell_below HW6.out K1.out
        have k2 := pw_cell_below HW6.out K2.out
        have k3 := pw_cell_below HW6.out K3.out
        have k4 := pw_cell_below HW6.out K4.out
        have k5 := pw_cell_below HW6.out K5.out
        go_wp2_with fail
        refine (fdead_rename (HD.out.below HW6.out) _ _).mono ?_
        rintro e w17 ⟨rfl, hb⟩
        have HW7 := Aside0.mk (HW6.out.trans (hb.mono HW6.out.size))
        clear hb k1 k2 k3 k4 k5
        have k1 := pw_cell_below HW7.out K1.out
        have k2 := pw_cell_below HW7.out K2.out
        have k3 := pw_cell_below HW7.out K3.out
        have k4 := pw_cell_below HW7.out K4.out
        have k5 := pw_cell_below HW7.out K5.out
        go_wp2_with fail
        refine (fdead_remove (HD.out.below HW7.out) _).mono ?_
        rintro e w18 ⟨rfl, hb⟩
        have HW8 := Aside0.mk (HW7.out.trans (hb.mono HW7.out.size))
        clear hb k1 k2 k3 k4 k5
        have k1 := pw_cell_below HW8.out K1.out
        have k2 := pw_cell_below HW8.out K2.out
        have k3 := pw_cell_below HW8.out K3.out
        have k4 := pw_cell_below HW8.out K4.out
        have k5 := pw_cell_below HW8.out K5.out
        have ek : wrap64 ((k : Int) + 1) = ((k + 1 : Nat) : Int) := wrap_nat (by omega)
        go_wp2_with fail
        go_roundw
        case rel => exact ⟨k + 1, by first | rfl | rw [ek], by omega, HW8⟩
        case measure => first | (simp [intOf]; omega) | (rw [ek]; simp [intOf]; omega)
      · have d1 : decide ((k : Int) < 2) = false := decide_eq_false (by omega)
        go_wp2_with fail
        refine (awake_calls _).mono ?_
        rintro e w6 ⟨rfl, hB⟩
        have HB6 := Aside0.mk ((HBW.out.trans (HB.out.mono HBW.out.size)).trans (hB.mono (Nat.le_trans HBW.out.size HB.out.size)))
        clear hB
        go_wp2_with fail
        go_ret
        exact ⟨rfl, HB6.out⟩
  · go_wp2_with fail
    go_ret
    exact ⟨rfl, pw_below_drewN (below_alloc (below_alloc (Below.refl _ _) _) _) _⟩
/-- The same, as the row hands it its argument. -/
theorem nil_law2 {G0 G1 G2 G3 G4 G5 : Prop} (a0 : Int) (a1 a2 : ByteArray) (A3 : Option Addr) (c3 : Nat) (l3 : List Int) (a4 : Int) (A5 : Option Addr) (c5 : Nat) (l5 : List Int) (W : World) (hr3 : Kd.C kB W A3 l3.length l3) (hc3 : l3.length ≤ c3) (hr5 : Kd.C kI W A5 l5.length l5) (hc5 : l5.length ≤ c5) (g0 : G0) (g1 : G1) (g2 : G2) (g3 : G3) (g4 : G4) (g5 : G5) :
    Calls Try.prog 8 #[.agg #[.int .u8 a0, .string a1, .string a2, .slice A3 l3.length c3, .int .i64 a4, .slice A5 l5.length c5]] W fun e w' => e = .returned (.bool true) ∧ Below W.heap.size W w' :=
  nil_law ⟨a0, a1, a2, l3, a4, l5⟩ _ W (k46_mk W ⟨a0, a1, a2, l3, a4, l5⟩ hc3 hr3 hc5 hr5)
end Go.Proofs.Ytibnakpefjjoiaa.Fs

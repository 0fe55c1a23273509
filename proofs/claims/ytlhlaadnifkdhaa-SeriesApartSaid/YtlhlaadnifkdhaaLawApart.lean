/- What is added to one series changes no other one: walked. -/
import Derived.Test.YtlhlaadnifkdhaaSerT
namespace Go.Proofs.Ytlhlaadnifkdhaa.Sr
open Go.RowKit Go.Proofs.YtlhlaadnifkdhaaW.PrintWords Go.Proofs.YtlhlaadnifkdhaaW.PrintLast Go.Proofs.YtlhlaadnifkdhaaW.PrintMore Go.Proofs.Ytlhlaadnifkdhaa.Q Go.Proofs.Ytlhlaadnifkdhaa.Own Go.Proofs.Ytlhlaadnifkdhaa.Nmd
set_option linter.unusedVariables false
set_option linter.unusedSimpArgs false
attribute [local go_sem ↓] Go.wp_at_zero Go.wp_at_succ

/-- What an act that came in is good for. -/
def GoodA (x : AT) : Prop := True ∧ (x.f1.length ≤ 9223372036854775807 ∧ ∀ y ∈ x.f1, y.f0.size ≤ 9223372036854775807 ∧ y.f1.size ≤ 9223372036854775807) ∧ ((Lit.int .i64 x.f2.f0).wf = true ∧ (Lit.int .i64 x.f2.f1).wf = true)
theorem good_top {x : AT} (h : GoodA x) : x.f2.f0 ≤ top64 := by
  have h1 := h.2.2.1
  unfold top64
  simp [Lit.wf] at h1
  exact h1.2
set_option maxHeartbeats 16000000 in
set_option maxRecDepth 100000 in
theorem apart_law (A0 : Option Addr) (c0 : Nat) (l0 : List AT) (W : World) (hr0 : Kd.C kA W A0 l0.length l0) (hc0 : l0.length ≤ c0) (hm0 : l0.length ≤ 9223372036854775807) (y0 : l0.length * 48 ≤ 140737488351232) (hg0 : ∀ x ∈ l0, GoodA x) :
    Calls Try.prog 6 #[.slice A0 l0.length c0] W fun e w' => e = .returned (.bool true) ∧ Below W.heap.size W w' := by
  obtain ⟨r, hr, hgr⟩ := great_c hr0 hc0 (fun x hx => (hg0 x hx).2.1.1)
  have hfin : VFin (runV l0) := fin_run fun a ha => good_top (hg0 a ha)
  have HG := Aside0.mk hgr
  have HC := Aside0.mk hr0
  have HR := Aside0.mk hr
  have HFI := Aside0.mk hfin
  clear hr0 hc0 hm0 y0 hg0 hgr hr hfin
  go_enter Try.func6, Try.ntmps6
  go_wp2_with fail
  refine HG.out.mono ?_
  rintro e w1 ⟨rfl, hb1⟩
  have HB1 := Aside0.mk hb1
  clear hb1 HG
  cases r with
  | true =>
    go_wp2_with fail
    refine (awake_calls _).mono ?_
    rintro e w2 ⟨rfl, hb2⟩
    go_wp2_with fail
    go_ret
    exact ⟨rfl, HB1.out.trans (hb2.mono HB1.out.size)⟩
  | false =>
    have hl0 := HR.out rfl
    go_wp2_with fail
    refine (st_new (Has.nil w1)).mono ?_
    rintro e w3 ⟨p, rfl, hA, hB⟩
    have HB3 : Aside0 (Below W.heap.size W w3) := ⟨HB1.out.trans (hB.mono HB1.out.size)⟩
    have hA0 : Has W.heap.size w3 [storeT p (runV (l0.take 0))] := ⟨HB3.out.size, by
      obtain ⟨F, h1, h2, h3⟩ := hA.all
      exact ⟨F, h1, fun k hk => ⟨trivial, Nat.le_trans HB1.out.size (h2 k hk).2.1, (h2 k hk).2.2⟩, trivial⟩⟩
    have HA3 := Aside0.mk (row_nil kAH hA0 46).swap
    clear hA hB HB1 hA0
    go_wp2_with fail
    go_loopw [5, 4] (fun i o wr => ∃ (k : Nat) (Ao : Option Addr) (co : Nat) (hs : List AH), i = .int .i64 k ∧ k ≤ l0.length ∧ o = .slice Ao hs.length co ∧ Aside0 (AccOk W (accL (l0.take k)) hs) ∧ Aside0 (Has W.heap.size wr [storeT p (runV (l0.take k)), rowA (.slice Ao hs.length co) hs]) ∧ Aside0 (Below W.heap.size W wr)) (fun i _ _ => l0.length - (intOf i).toNat)
    case atStart => exact ⟨0, none, 0, [], rfl, by omega, rfl, ⟨acc_ok0 W⟩, HA3, HB3⟩
    case round =>
      clear HA3 HB3
      obtain ⟨k, Ao, co, hs, rfl, hk, rfl, HK, HA, HB⟩ := hrel
      have hhs : hs.length ≤ 200 := by
        rw [HK.out.1]
        refine Nat.le_trans (acc_len _) ?_
        rw [List.length_take]
        omega
      by_cases hlt : k < l0.length
      · have d1 : decide ((k : Int) < (l0.length : Int)) = true := decide_eq_true (by omega)
        have d2 : decide (0 ≤ (k : Int)) = true := decide_eq_true (by omega)
        have ek : wrap64 ((k : Int) + 1) = ((k + 1 : Nat) : Int) := (w64 (x := (k : Int) + 1) (by omega) (by omega)).trans (by omega)
        obtain ⟨ad, Al, cl, rfl, q0, q1, q2, q3, hcl, hCl⟩ := act_at HC.out k hlt
        have HT := Aside0.mk (run_take l0 hlt)
        have HTA := Aside0.mk (acc_take l0 hlt)
        have HQ : Aside0 (∀ w', Below W.heap.size W w' → w'.cell? (ad.add (k * 4)) = some (.bool (l0[k]).f0) ∧ w'.cell? ⟨(ad.add (k * 4)).block, (ad.add (k * 4)).off + 1, none⟩ = some (.slice Al (l0[k]).f1.length cl) ∧ w'.cell? ⟨(ad.add (k * 4)).block, (ad.add (k * 4)).off + 2, none⟩ = some (.int .i64 (l0[k]).f2.f0) ∧ w'.cell? ⟨(ad.add (k * 4)).block, (ad.add (k * 4)).off + 3, none⟩ = some (.int .i64 (l0[k]).f2.f1)) := ⟨fun w' hb => ⟨cell_bl (B := 0) hb q0, cell_bl (B := 0) hb q1, cell_bl (B := 0) hb q2, cell_bl (B := 0) hb q3⟩⟩
        clear q0 q1 q2 q3
        obtain ⟨q0, q1, q2, q3⟩ := HQ.out wr HB.out
        have HEX := Aside0.mk (st_exp HA.out (l0[k]).f2.f0)
        have HAD := Aside0.mk (st_add HA.out.drew (A := Al) (c := cl) (ls := (l0[k]).f1) (l0[k]).f2 (fun w' _ hb => Kd.C_below hCl (HB.out.trans ((bl_drew (Below.refl W.heap.size wr)).trans hb))) hcl (Kd.C_max hCl))
        have HPU := Aside0.mk (HK.out.push hcl hCl)
        generalize l0[k] = x at q0 q1 q2 q3 HEX HAD HT HTA HQ HPU
        obtain ⟨x0, x1, ⟨x2, x3⟩⟩ := x
        dsimp only at q0 q1 q2 q3 HEX HAD HQ HPU
        clear hCl hcl
        cases x0 with
        | true =>
          have HT2 : Aside0 (runV (l0.take (k + 1)) = expV (runV (l0.take k)) x2) := ⟨HT.out⟩
          have HTA2 : Aside0 (accL (l0.take (k + 1)) = accL (l0.take k) ++ [⟨true, x1, ⟨x2, x3⟩⟩]) := ⟨HTA.out⟩
          clear HAD HT HTA
          go_wp2_with fail
          refine HEX.out.mono ?_
          rintro e w4 ⟨rfl, hA4, hB4⟩
          have HB4 := Aside0.mk (HB.out.trans hB4)
          clear q0 q1 q2 q3
          obtain ⟨q0, q1, q2, q3⟩ := HQ.out w4 HB4.out
          have HB5 : Aside0 (Below W.heap.size W (w4.alloc (.cells #[.bool true, .slice Al x1.length cl, .int .i64 x2, .int .i64 x3] 46))) := ⟨HB4.out.alloc hA4.size _⟩
          have HA5 := Aside0.mk (hA4.alloc (.cells #[.bool true, .slice Al x1.length cl, .int .i64 x2, .int .i64 x3] 46)).swap
          have HC5 : Aside0 (Kd.C kAH (w4.alloc (.cells #[.bool true, .slice Al x1.length cl, .int .i64 x2, .int .i64 x3] 46)) (some ⟨w4.heap.size, 0, none⟩) 1 [((true, (Al, x1.length, cl), x2, x3) : AH)]) := ⟨lit_A w4 (true, (Al, x1.length, cl), x2, x3)⟩
          clear hA4 hB4 HA HB HEX
          go_wp2_with (refine rows_app kAH HA5.out rfl _ _ 36 (.agg #[.bool false, .slice none 0 0, .int .i64 0, .int .i64 0]) 48 rfl Try.underlying36 infA rfl (by decide) (by decide) (some ⟨w4.heap.size, 0, none⟩) 1 rfl rfl HC5.out (fun x cs hx => kAH_KM x cs hx) (by show (hs.length + 1) * 48 ≤ 140737488355328; omega) ?_; rintro v6 w6 hA6 hB6; obtain ⟨A6, c6, rfl, -, -⟩ := hA6.reads (d := kAH) (e := 46) (v := v6) (xs := hs ++ [(true, (Al, x1.length, cl), x2, x3)]) (List.mem_cons_self ..); have HA6 := Aside0.mk hA6.swap; have HB6 := Aside0.mk (HB5.out.trans hB6); clear hA6 hB6 HA5 HB5 HC5)
          have HLN : Aside0 ((hs ++ [((true, (Al, x1.length, cl), x2, x3) : AH)]).length = hs.length + 1) := ⟨by rw [List.length_append]; rfl⟩
          rw [← HT2.out] at HA6
          rw [← HTA2.out] at HPU
          go_roundw
          case rel => exact ⟨k + 1, A6, c6, hs ++ [(true, (Al, x1.length, cl), x2, x3)], by first | rfl | rw [ek], by omega, by first | rfl | rw [HLN.out], HPU, HA6, HB6⟩
          case measure => first | (simp [intOf]; omega) | (rw [ek]; simp [intOf]; omega)
        | false =>
          have HT2 : Aside0 (runV (l0.take (k + 1)) = (addV (runV (l0.take k)) x1 ⟨x2, x3⟩).2) := ⟨HT.out⟩
          have HTA1 : Aside0 (accL (l0.take (k + 1)) = if (addV (runV (l0.take k)) x1 ⟨x2, x3⟩).1 = 0 then accL (l0.take k) ++ [⟨false, x1, ⟨x2, x3⟩⟩] else accL (l0.take k)) := ⟨HTA.out⟩
          clear HEX HT HTA
          obtain ⟨ev, hev⟩ : ∃ ev, (addV (runV (l0.take k)) x1 ⟨x2, x3⟩).1 = ev := ⟨_, rfl⟩
          rw [hev] at HAD HTA1
          clear hev
          go_wp2_with fail
          refine start_ (n := 13) (S := fun w' => w'.cell? (ad.add (k * 4)) = some (.bool false) ∧ w'.cell? ⟨(ad.add (k * 4)).block, (ad.add (k * 4)).off + 1, none⟩ = some (.slice Al x1.length cl) ∧ w'.cell? ⟨(ad.add (k * 4)).block, (ad.add (k * 4)).off + 2, none⟩ = some (.int .i64 x2) ∧ w'.cell? ⟨(ad.add (k * 4)).block, (ad.add (k * 4)).off + 3, none⟩ = some (.int .i64 x3)) (ds := [11]) #[false, false, false, false, false, false, false, false, false, false, false, false, false] (by kernel_rfl) rfl rfl ⟨q0, q1, q2, q3⟩ (fun hHeld => ?_)
          refine pure_ (i := 0) (N := some 42) (v := ?_) (a' := ?_) #[true, false, false, false, false, false, false, false, false, false, false, false, false] rfl rfl (by kernel_rfl) (fun _ _ _ h => h) (Or.inl ⟨by rfl, ?_⟩) ?_ ?_
          rotate_left
          · intro w'
            go_simp
            with_reducible rfl
          rotate_left
          · simp only [Act.put, List.setIfInBounds_toArray, List.set_cons_zero, List.set_cons_succ, i64_w, i32_w]
            rfl
          refine pure_ (i := 1) (N := some 43) (v := ?_) (a' := ?_) #[true, true, false, false, false, false, false, false, false, false, false, false, false] rfl rfl (by kernel_rfl) (fun _ _ _ h => h) (Or.inl ⟨by rfl, ?_⟩) ?_ ?_
          rotate_left
          · intro w'
            go_simp
            with_reducible rfl
          rotate_left
          · simp only [Act.put, List.setIfInBounds_toArray, List.set_cons_zero, List.set_cons_succ, i64_w, i32_w]
            rfl
          refine pure_ (i := 2) (N := some 44) (v := ?_) (a' := ?_) #[true, true, true, false, false, false, false, false, false, false, false, false, false] rfl rfl (by kernel_rfl) (fun _ _ _ h => h) (Or.inl ⟨by rfl, ?_⟩) ?_ ?_
          rotate_left
          · intro w'
            go_simp
            with_reducible rfl
          rotate_left
          · simp only [Act.put, List.setIfInBounds_toArray, List.set_cons_zero, List.set_cons_succ, i64_w, i32_w]
            rfl
          refine pure_ (i := 3) (N := some 45) (v := ?_) (a' := ?_) #[true, true, true, true, false, false, false, false, false, false, false, false, false] rfl rfl (by kernel_rfl) (fun _ _ _ h => h) (Or.inl ⟨by rfl, ?_⟩) ?_ ?_
          rotate_left
          · intro w'
            go_simp
            with_reducible rfl
          rotate_left
          · simp only [Act.put, List.setIfInBounds_toArray, List.set_cons_zero, List.set_cons_succ, i64_w, i32_w]
            rfl
          refine pure_ (i := 4) (N := some 46) (v := ?_) (a' := ?_) #[true, true, true, true, true, false, false, false, false, false, false, false, false] rfl rfl (by kernel_rfl) (fun _ _ _ h => h) (Or.inl ⟨by rfl, ?_⟩) ?_ ?_
          rotate_left
          · intro w'
            go_simp
            with_reducible rfl
          rotate_left
          · simp only [Act.put, List.setIfInBounds_toArray, List.set_cons_zero, List.set_cons_succ, i64_w, i32_w]
            rfl
          refine pure_ (i := 6) (N := some 48) (v := ?_) (a' := ?_) #[true, true, true, true, true, false, true, false, false, false, false, false, false] rfl rfl (by kernel_rfl) (fun _ _ _ h => h) (Or.inl ⟨by rfl, ?_⟩) ?_ ?_
          rotate_left
          · intro w'
            go_simp
            with_reducible rfl
          rotate_left
          · simp only [Act.put, List.setIfInBounds_toArray, List.set_cons_zero, List.set_cons_succ, i64_w, i32_w]
            rfl
          refine pure_ (i := 7) (N := some 49) (v := ?_) (a' := ?_) #[true, true, true, true, true, false, true, true, false, false, false, false, false] rfl rfl (by kernel_rfl) (fun _ _ _ h => h) (Or.inl ⟨by rfl, ?_⟩) ?_ ?_
          rotate_left
          · intro w'
            go_simp
            with_reducible rfl
          rotate_left
          · simp only [Act.put, List.setIfInBounds_toArray, List.set_cons_zero, List.set_cons_succ, i64_w, i32_w]
            rfl
          refine pure_ (i := 8) (N := some 50) (v := ?_) (a' := ?_) #[true, true, true, true, true, false, true, true, true, false, false, false, false] rfl rfl (by kernel_rfl) (fun _ _ _ h => h) (Or.inl ⟨by rfl, ?_⟩) ?_ ?_
          rotate_left
          · intro w'
            go_simp
            with_reducible rfl
          rotate_left
          · simp only [Act.put, List.setIfInBounds_toArray, List.set_cons_zero, List.set_cons_succ, i64_w, i32_w]
            rfl
          refine pure_ (i := 9) (N := some 51) (v := ?_) (a' := ?_) #[true, true, true, true, true, false, true, true, true, true, false, false, false] rfl rfl (by kernel_rfl) (fun _ _ _ h => h) (Or.inl ⟨by rfl, ?_⟩) ?_ ?_
          rotate_left
          · intro w'
            go_simp
            with_reducible rfl
          rotate_left
          · simp only [Act.put, List.setIfInBounds_toArray, List.set_cons_zero, List.set_cons_succ, i64_w, i32_w]
            rfl
          refine take_ (i := 5) (N := some 47) (v := ?_) (a' := ?_) #[true, true, true, true, true, true, true, true, true, true, false, false, false] rfl rfl (by kernel_rfl) (fun _ _ _ h => h) (Or.inl ⟨by rfl, ?_⟩) hHeld ?_ ?_
          rotate_left
          · rintro w' ⟨s0, s1, s2, s3⟩
            go_simp
            with_reducible rfl
          rotate_left
          · simp only [Act.put, List.setIfInBounds_toArray, List.set_cons_zero, List.set_cons_succ, i64_w, i32_w]
            rfl
          refine take_ (i := 10) (N := some 52) (v := ?_) (a' := ?_) #[true, true, true, true, true, true, true, true, true, true, true, false, false] rfl rfl (by kernel_rfl) (fun _ _ _ h => h) (Or.inl ⟨by rfl, ?_⟩) hHeld ?_ ?_
          rotate_left
          · rintro w' ⟨s0, s1, s2, s3⟩
            go_simp
            with_reducible rfl
          rotate_left
          · simp only [Act.put, List.setIfInBounds_toArray, List.set_cons_zero, List.set_cons_succ, i64_w, i32_w]
            rfl
          refine last_ (i := 11) (N := some 53) #[true, true, true, true, true, true, true, true, true, true, true, true, false] rfl rfl (by kernel_rfl) (by decide) (fun K hK => ?_)
          refine goes_ Try.func9 (by kernel_rfl) rfl #[ptr p, .slice Al x1.length cl, .agg #[.int .i64 x2, .int .i64 x3]] (by rfl) rfl rfl (by simp only [List.map_toArray, List.map_cons, List.map_nil]; rfl) ?_
          with_reducible refine (HAD.out).mono ?_
          rintro e w4 ⟨rfl, hA4, hB4⟩
          refine ⟨_, rfl, ?_⟩
          refine hK.out _ _ ?_
          clear hK K
          refine norm_ (a' := ?_) ?_ ?_
          rotate_left
          · show Act.put _ (some 53) _ = _
            simp only [Act.put, List.setIfInBounds_toArray, List.set_cons_zero, List.set_cons_succ, i64_w, i32_w]
            rfl
          refine pure_ (i := 12) (N := some 54) (v := ?_) (a' := ?_) #[true, true, true, true, true, true, true, true, true, true, true, true, true] rfl rfl (by kernel_rfl) (fun _ _ _ h => h) (Or.inl ⟨by rfl, ?_⟩) ?_ ?_
          rotate_left
          · intro w'
            go_simp
            with_reducible rfl
          rotate_left
          · simp only [Act.put, List.setIfInBounds_toArray, List.set_cons_zero, List.set_cons_succ, i64_w, i32_w]
            rfl
          refine done_ (by kernel_rfl) ?_

          have HB4 : Aside0 (Below W.heap.size W w4) := ⟨HB.out.trans ((bl_drew (Below.refl W.heap.size wr)).trans hB4)⟩
          clear q0 q1 q2 q3
          obtain ⟨q0, q1, q2, q3⟩ := HQ.out w4 HB4.out
          by_cases hz : ev = 0
          · subst hz
            have HTA2 : Aside0 (accL (l0.take (k + 1)) = accL (l0.take k) ++ [⟨false, x1, ⟨x2, x3⟩⟩]) := ⟨HTA1.out⟩
            clear HTA1
            have HB5 : Aside0 (Below W.heap.size W (w4.alloc (.cells #[.bool false, .slice Al x1.length cl, .int .i64 x2, .int .i64 x3] 46))) := ⟨HB4.out.alloc hA4.size _⟩
            have HA5 := Aside0.mk (hA4.alloc (.cells #[.bool false, .slice Al x1.length cl, .int .i64 x2, .int .i64 x3] 46)).swap
            have HC5 : Aside0 (Kd.C kAH (w4.alloc (.cells #[.bool false, .slice Al x1.length cl, .int .i64 x2, .int .i64 x3] 46)) (some ⟨w4.heap.size, 0, none⟩) 1 [((false, (Al, x1.length, cl), x2, x3) : AH)]) := ⟨lit_A w4 (false, (Al, x1.length, cl), x2, x3)⟩
            clear hA4 hB4 HA HB HAD
            go_wp2_with (refine rows_app kAH HA5.out rfl _ _ 36 (.agg #[.bool false, .slice none 0 0, .int .i64 0, .int .i64 0]) 48 rfl Try.underlying36 infA rfl (by decide) (by decide) (some ⟨w4.heap.size, 0, none⟩) 1 rfl rfl HC5.out (fun x cs hx => kAH_KM x cs hx) (by show (hs.length + 1) * 48 ≤ 140737488355328; omega) ?_; rintro v6 w6 hA6 hB6; obtain ⟨A6, c6, rfl, -, -⟩ := hA6.reads (d := kAH) (e := 46) (v := v6) (xs := hs ++ [(false, (Al, x1.length, cl), x2, x3)]) (List.mem_cons_self ..); have HA6 := Aside0.mk hA6.swap; have HB6 := Aside0.mk (HB5.out.trans hB6); clear hA6 hB6 HA5 HB5 HC5)
            have HLN : Aside0 ((hs ++ [((false, (Al, x1.length, cl), x2, x3) : AH)]).length = hs.length + 1) := ⟨by rw [List.length_append]; rfl⟩
            rw [← HT2.out] at HA6
            rw [← HTA2.out] at HPU
            go_roundw
            case rel => exact ⟨k + 1, A6, c6, hs ++ [(false, (Al, x1.length, cl), x2, x3)], by first | rfl | rw [ek], by omega, by first | rfl | rw [HLN.out], HPU, HA6, HB6⟩
            case measure => first | (simp [intOf]; omega) | (rw [ek]; simp [intOf]; omega)
          · have d3 : (ev == 0) = false := beq_eq_false_iff_ne.2 hz
            have HTA2 : Aside0 (accL (l0.take (k + 1)) = accL (l0.take k)) := ⟨by rw [HTA1.out, if_neg hz]⟩
            have HK2 : Aside0 (AccOk W (accL (l0.take (k + 1))) hs) := ⟨by rw [HTA2.out]; exact HK.out⟩
            have HA4 : Aside0 (Has W.heap.size w4 [storeT p (runV (l0.take (k + 1))), rowA (.slice Ao hs.length co) hs]) := ⟨by rw [HT2.out]; exact hA4⟩
            clear HTA1 hA4 hB4 HAD HA HB HPU hz
            go_wp2_with fail
            go_roundw
            case rel => exact ⟨k + 1, Ao, co, hs, by first | rfl | rw [ek], by omega, rfl, HK2, HA4, HB4⟩
            case measure => first | (simp [intOf]; omega) | (rw [ek]; simp [intOf]; omega)
      · obtain rfl : k = l0.length := by omega
        have d1 : decide ((l0.length : Int) < (l0.length : Int)) = false := decide_eq_false (by omega)
        rw [List.take_length] at HK HA
        have hV := may_run l0
        have HAL := Aside0.mk (st_all HA.out)
        rw [all_fin HFI.out] at HAL
        obtain ⟨-, -, hv8, hfull⟩ := store_facts HA.out
        have HON := Aside0.mk (fun k (h : k < (runV l0).length) => alone_one HFI.out h)
        have HOK := Aside0.mk (fun k (h : k < (runV l0).length) => (alone_ok (hV.2 _ (List.getElem_mem h)) l0).2)
        have HXA := Aside0.mk (exp_all HFI.out)
        generalize runV l0 = V at HAL HON HOK HXA hV hv8 hfull
        generalize accL l0 = acc at HK HON HOK
        have HVM := Aside0.mk hV.2
        have HFU := Aside0.mk hfull
        clear HA hlt hV hfull HFI
        go_wp2_with fail
        refine HAL.out.mono ?_
        rintro e w4 ⟨Aa, na, ca, rfl, hA4, hB4⟩
        have HB4 := Aside0.mk (HB.out.trans hB4)
        have HLN1 := Aside0.mk (st_len hA4.swap)
        obtain ⟨M, hM, hA5⟩ := finds_open hA4
        obtain ⟨TH, hTH⟩ : ∃ TH, rowF (.slice Aa na ca) (M.map plF) :: (tf M ++ [storeT p V, rowA (.slice Ao hs.length co) hs]) = TH := ⟨_, rfl⟩
        have hna : na = V.length := by rw [← view_len hM]; exact (find_n hA5 (List.mem_cons_self ..)).1
        have HOUT : Aside0 (∀ w, Has W.heap.size w TH → Has W.heap.size w [storeT p V]) := ⟨fun w hw => by
          rw [← hTH] at hw
          exact has_only (has_drop (As := tf M) hw.tail)⟩
        rw [hTH] at hA5
        have hra : rowF (.slice Aa na ca) (M.map plF) ∈ TH := by rw [← hTH]; simp
        have hta : ∀ T ∈ tf M, T ∈ TH := fun T hT => by rw [← hTH]; simp [hT]
        have hrc : rowA (.slice Ao hs.length co) hs ∈ TH := by rw [← hTH]; simp
        subst hna
        have RA : Aside0 (∀ w Us, Has W.heap.size w (Us ++ TH) → ∀ k (hk : k < V.length), ∃ ad, Aa = some ad ∧ ∃ (A1 : Option Addr) (n1 c1 : Nat) (A2 : Option Addr) (n2 c2 : Nat), FRead w ad k ⟨(A1, n1, c1), (A2, n2, c2), (V[k]).1, (V[k]).2⟩) := ⟨fun w Us hw k hk => reads_of hw hM (List.mem_append_right _ hra) (fun T hT => List.mem_append_right _ (hta T hT)) hk⟩
        have RC : Aside0 (∀ w Us, Has W.heap.size w (Us ++ TH) → Kd.C kAH w Ao hs.length hs) := ⟨fun w Us hw => (row_reads hw (List.mem_append_right _ hrc)).2.2⟩
        have HA5 := Aside0.mk hA5
        clear hA4 hA5 hra hta hrc hM hTH HAL HB hB4 d1
        have d0 : decide ((V.length : Int) > 8) = false := decide_eq_false (by omega)
        have d0' : ¬ (8 : Int) < (V.length : Int) := by omega
        have hhl := HK.out.1
        go_wp2_with fail
        refine HLN1.out.mono ?_
        rintro e w5 ⟨rfl, rfl⟩
        clear HLN1
        go_wp2_with fail
        go_loopw [8, 7] (fun i n wr => ∃ k : Nat, i = .int .i64 k ∧ n = .int .i64 (sumV (V.take k) : Nat) ∧ k ≤ V.length ∧ Aside0 (Has W.heap.size wr TH) ∧ Aside0 (Below W.heap.size W wr)) (fun i _ _ => V.length - (intOf i).toNat)
        case atStart => exact ⟨0, rfl, rfl, by omega, HA5, HB4⟩
        case round =>
          clear HA5 HB4
          obtain ⟨k, rfl, rfl, hk, HA, HB⟩ := hrel
          have hsum : sumV (V.take k) ≤ 300 := by
            have h1 := sum_le (V := V.take k) fun v hv => HFU.out v (List.mem_of_mem_take hv)
            rw [List.length_take] at h1
            omega
          by_cases hlt : k < V.length
          · have d1 : decide ((k : Int) < (V.length : Int)) = true := decide_eq_true (by omega)
            have ek : wrap64 ((k : Int) + 1) = ((k + 1 : Nat) : Int) := (w64 (x := (k : Int) + 1) (by omega) (by omega)).trans (by omega)
            have EK := Aside0.mk ek
            have HSU := Aside0.mk (sum_take V hlt)
            have h32 := HFU.out _ (List.getElem_mem hlt)
            have HON1 := Aside0.mk (HON.out k hlt)
            have HOK1 := Aside0.mk (HOK.out k hlt)
            have hRA : ∀ w Us, Has W.heap.size w (Us ++ TH) → ∃ ad, Aa = some ad ∧ ∃ (A1 : Option Addr) (n1 c1 : Nat) (A2 : Option Addr) (n2 c2 : Nat), FRead w ad k ⟨(A1, n1, c1), (A2, n2, c2), (V[k]).1, (V[k]).2⟩ := fun w Us hw => RA.out w Us hw k hlt
            generalize V[k] = v at HSU h32 HON1 HOK1 hRA
            obtain ⟨q, xs⟩ := v
            dsimp only at HSU h32 HON1 HOK1 hRA
            have HRA := Aside0.mk hRA
            clear hRA
            go_wp2_with fail
            refine (st_new (Has.nil wr)).mono ?_
            rintro e w6 ⟨p2, rfl, hA6, hB6⟩
            have hA6' : Has W.heap.size w6 (storeT p2 [] :: TH) := by
              obtain ⟨F, h1, h2, h3⟩ := hA6.all
              exact HA.out.new hB6 h1 (fun k hk => ⟨(h2 k hk).2.1, (h2 k hk).2.2⟩)
            have HA6 : Aside0 (Has W.heap.size w6 (storeT p2 (alone q (acc.take 0)) :: TH)) := ⟨hA6'⟩
            have HB6 := Aside0.mk (HB.out.trans (hB6.mono HA.out.size))
            clear hA6 hA6' hB6 HA HB ek d1
            go_wp2_with fail
            go_loopw [10] (fun i wr => ∃ m : Nat, i = .int .i64 m ∧ m ≤ hs.length ∧ Aside0 (Has W.heap.size wr (storeT p2 (alone q (acc.take m)) :: TH)) ∧ Aside0 (Below W.heap.size W wr)) (fun i _ => hs.length - (intOf i).toNat)
            case atStart => exact ⟨0, rfl, by omega, HA6, HB6⟩
            case round =>
              clear HA6 HB6
              obtain ⟨m, rfl, hm, HA, HB⟩ := hrel
              by_cases hltm : m < hs.length
              · have d1 : decide ((m : Int) < (hs.length : Int)) = true := decide_eq_true (by omega)
                have d2 : decide (0 ≤ (m : Int)) = true := decide_eq_true (by omega)
                have em : wrap64 ((m : Int) + 1) = ((m + 1 : Nat) : Int) := (w64 (x := (m : Int) + 1) (by omega) (by omega)).trans (by omega)
                have hma : m < acc.length := by omega
                obtain ⟨Al, cl, hx, hcl, hCl⟩ := HK.out.2 m hma
                obtain ⟨adc, eadc, -⟩ := at_A (RC.out wr [storeT p2 (alone q (acc.take m))] HA.out) m hx
                subst eadc
                have HCC : Aside0 (∀ w Us, Has W.heap.size w (Us ++ TH) → w.cell? (adc.add (m * 4)) = some (.bool (acc[m]).f0) ∧ w.cell? ⟨(adc.add (m * 4)).block, (adc.add (m * 4)).off + 1, none⟩ = some (.slice Al (acc[m]).f1.length cl) ∧ w.cell? ⟨(adc.add (m * 4)).block, (adc.add (m * 4)).off + 2, none⟩ = some (.int .i64 (acc[m]).f2.f0) ∧ w.cell? ⟨(adc.add (m * 4)).block, (adc.add (m * 4)).off + 3, none⟩ = some (.int .i64 (acc[m]).f2.f1)) := ⟨fun w Us hw => by
                  obtain ⟨ad, e, h⟩ := at_A (RC.out w Us hw) m hx
                  injection e with e
                  subst e
                  exact h⟩
                have HT := Aside0.mk (alone_take q acc hma)
                have HEX := Aside0.mk (st_exp HA.out (acc[m]).f2.f0)
                have HOK2 := Aside0.mk (HOK1.out m hma)
                have HCL : Aside0 ((acc[m]).f1.length ≤ cl ∧ Kd.C kL W Al (acc[m]).f1.length (acc[m]).f1) := ⟨hcl, hCl⟩
                clear hx hcl hCl
                generalize acc[m] = x at HT HEX HOK2 HCL HCC
                obtain ⟨x0, x1, ⟨x2, x3⟩⟩ := x
                dsimp only at HEX HOK2 HCL HCC
                obtain ⟨q0, q1, q2, q3⟩ := HCC.out wr [storeT p2 (alone q (acc.take m))] HA.out
                cases x0 with
                | true =>
                  have HT2 : Aside0 (alone q (acc.take (m + 1)) = expV (alone q (acc.take m)) x2) := ⟨HT.out⟩
                  clear HT HOK2 HCC HCL
                  go_wp2_with fail
                  refine HEX.out.mono ?_
                  rintro e w7 ⟨rfl, hA7, hB7⟩
                  have HA7 : Aside0 (Has W.heap.size w7 (storeT p2 (alone q (acc.take (m + 1))) :: TH)) := ⟨by rw [HT2.out]; exact hA7⟩
                  have HB7 := Aside0.mk (HB.out.trans hB7)
                  clear hA7 hB7 HEX HA HB q0 q1 q2 q3
                  go_wp2_with fail
                  go_roundw
                  case rel => exact ⟨m + 1, by first | rfl | rw [em], by omega, HA7, HB7⟩
                  case measure => first | (simp [intOf]; omega) | (rw [em]; simp [intOf]; omega)
                | false =>
                  obtain ⟨ad, eA, A1q, n1q, c1q, A2q, n2q, c2q, hFR⟩ := HRA.out wr [storeT p2 (alone q (acc.take m))] HA.out
                  subst eA
                  have b0 := hFR.c0
                  have hdr : Below wr.heap.size wr wr.drew := bl_drew (Below.refl _ _)
                  have hdW : Below W.heap.size W wr.drew := bl_drew HB.out
                  have HSL := Aside0.mk (samel_c (Kd.C_below HCL.out.2 hdW) HCL.out.1 (hFR.below hdr).C0 hFR.le0)
                  dsimp only at b0 HSL
                  have d4 : decide ((k : Int) < (V.length : Int)) = true := decide_eq_true (by omega)
                  have d4' : (k : Int) < (V.length : Int) := by omega
                  have d5 : decide (0 ≤ (k : Int)) = true := decide_eq_true (by omega)
                  cases hsm : sameLs x1 q with
                  | false =>
                    have HT2 : Aside0 (alone q (acc.take (m + 1)) = alone q (acc.take m)) := ⟨by
                      rw [HT.out]
                      show (if sameLs x1 q = true then _ else _) = _
                      rw [hsm, if_neg (by decide)]⟩
                    rw [hsm] at HSL
                    clear HT HOK2 HCL hsm hFR hdr hdW HEX
                    go_wp2_with fail
                    refine start_ (n := 26) (S := fun w' => w'.cell? ⟨(adc.add (m * 4)).block, (adc.add (m * 4)).off + 1, none⟩ = some (.slice Al x1.length cl) ∧ w'.cell? (ad.add (k * 2)) = some (.slice A1q q.length c1q)) (ds := [10]) #[false, false, false, false, false, false, false, false, false, false, false, false, false, false, false, false, false, false, false, false, false, false, false, false, false, false] (by kernel_rfl) rfl rfl ⟨q1, b0⟩ (fun hHeld => ?_)
                    refine pure_ (i := 0) (N := some 100) (v := ?_) (a' := ?_) #[true, false, false, false, false, false, false, false, false, false, false, false, false, false, false, false, false, false, false, false, false, false, false, false, false, false] rfl rfl (by kernel_rfl) (fun _ _ _ h => h) (Or.inl ⟨by rfl, ?_⟩) ?_ ?_
                    rotate_left
                    · intro w'
                      go_simp
                      with_reducible rfl
                    rotate_left
                    · simp only [Act.put, List.setIfInBounds_toArray, List.set_cons_zero, List.set_cons_succ, i64_w, i32_w]
                      rfl
                    refine pure_ (i := 1) (N := some 101) (v := ?_) (a' := ?_) #[true, true, false, false, false, false, false, false, false, false, false, false, false, false, false, false, false, false, false, false, false, false, false, false, false, false] rfl rfl (by kernel_rfl) (fun _ _ _ h => h) (Or.inl ⟨by rfl, ?_⟩) ?_ ?_
                    rotate_left
                    · intro w'
                      go_simp
                      with_reducible rfl
                    rotate_left
                    · simp only [Act.put, List.setIfInBounds_toArray, List.set_cons_zero, List.set_cons_succ, i64_w, i32_w]
                      rfl
                    refine pure_ (i := 2) (N := some 102) (v := ?_) (a' := ?_) #[true, true, true, false, false, false, false, false, false, false, false, false, false, false, false, false, false, false, false, false, false, false, false, false, false, false] rfl rfl (by kernel_rfl) (fun _ _ _ h => h) (Or.inl ⟨by rfl, ?_⟩) ?_ ?_
                    rotate_left
                    · intro w'
                      go_simp
                      with_reducible rfl
                    rotate_left
                    · simp only [Act.put, List.setIfInBounds_toArray, List.set_cons_zero, List.set_cons_succ, i64_w, i32_w]
                      rfl
                    refine pure_ (i := 3) (N := some 103) (v := ?_) (a' := ?_) #[true, true, true, true, false, false, false, false, false, false, false, false, false, false, false, false, false, false, false, false, false, false, false, false, false, false] rfl rfl (by kernel_rfl) (fun _ _ _ h => h) (Or.inl ⟨by rfl, ?_⟩) ?_ ?_
                    rotate_left
                    · intro w'
                      go_simp
                      with_reducible rfl
                    rotate_left
                    · simp only [Act.put, List.setIfInBounds_toArray, List.set_cons_zero, List.set_cons_succ, i64_w, i32_w]
                      rfl
                    refine pure_ (i := 5) (N := some 105) (v := ?_) (a' := ?_) #[true, true, true, true, false, true, false, false, false, false, false, false, false, false, false, false, false, false, false, false, false, false, false, false, false, false] rfl rfl (by kernel_rfl) (fun _ _ _ h => h) (Or.inl ⟨by rfl, ?_⟩) ?_ ?_
                    rotate_left
                    · intro w'
                      go_simp
                      with_reducible rfl
                    rotate_left
                    · simp only [Act.put, List.setIfInBounds_toArray, List.set_cons_zero, List.set_cons_succ, i64_w, i32_w]
                      rfl
                    refine pure_ (i := 6) (N := some 106) (v := ?_) (a' := ?_) #[true, true, true, true, false, true, true, false, false, false, false, false, false, false, false, false, false, false, false, false, false, false, false, false, false, false] rfl rfl (by kernel_rfl) (fun _ _ _ h => h) (Or.inl ⟨by rfl, ?_⟩) ?_ ?_
                    rotate_left
                    · intro w'
                      go_simp
                      with_reducible rfl
                    rotate_left
                    · simp only [Act.put, List.setIfInBounds_toArray, List.set_cons_zero, List.set_cons_succ, i64_w, i32_w]
                      rfl
                    refine pure_ (i := 7) (N := some 107) (v := ?_) (a' := ?_) #[true, true, true, true, false, true, true, true, false, false, false, false, false, false, false, false, false, false, false, false, false, false, false, false, false, false] rfl rfl (by kernel_rfl) (fun _ _ _ h => h) (Or.inl ⟨by rfl, ?_⟩) ?_ ?_
                    rotate_left
                    · intro w'
                      go_simp
                      with_reducible rfl
                    rotate_left
                    · simp only [Act.put, List.setIfInBounds_toArray, List.set_cons_zero, List.set_cons_succ, i64_w, i32_w]
                      rfl
                    refine pure_ (i := 8) (N := some 108) (v := ?_) (a' := ?_) #[true, true, true, true, false, true, true, true, true, false, false, false, false, false, false, false, false, false, false, false, false, false, false, false, false, false] rfl rfl (by kernel_rfl) (fun _ _ _ h => h) (Or.inl ⟨by rfl, ?_⟩) ?_ ?_
                    rotate_left
                    · intro w'
                      go_simp
                      with_reducible rfl
                    rotate_left
                    · simp only [Act.put, List.setIfInBounds_toArray, List.set_cons_zero, List.set_cons_succ, i64_w, i32_w]
                      rfl
                    refine take_ (i := 4) (N := some 104) (v := ?_) (a' := ?_) #[true, true, true, true, true, true, true, true, true, false, false, false, false, false, false, false, false, false, false, false, false, false, false, false, false, false] rfl rfl (by kernel_rfl) (fun _ _ _ h => h) (Or.inl ⟨by rfl, ?_⟩) hHeld ?_ ?_
                    rotate_left
                    · rintro w' ⟨s0, s1⟩
                      go_simp
                      with_reducible rfl
                    rotate_left
                    · simp only [Act.put, List.setIfInBounds_toArray, List.set_cons_zero, List.set_cons_succ, i64_w, i32_w]
                      rfl
                    refine take_ (i := 9) (N := some 109) (v := ?_) (a' := ?_) #[true, true, true, true, true, true, true, true, true, true, false, false, false, false, false, false, false, false, false, false, false, false, false, false, false, false] rfl rfl (by kernel_rfl) (fun _ _ _ h => h) (Or.inl ⟨by rfl, ?_⟩) hHeld ?_ ?_
                    rotate_left
                    · rintro w' ⟨s0, s1⟩
                      go_simp
                      with_reducible rfl
                    rotate_left
                    · simp only [Act.put, List.setIfInBounds_toArray, List.set_cons_zero, List.set_cons_succ, i64_w, i32_w]
                      rfl
                    refine last_ (i := 10) (N := some 110) #[true, true, true, true, true, true, true, true, true, true, true, false, false, false, false, false, false, false, false, false, false, false, false, false, false, false] rfl rfl (by kernel_rfl) (by decide) (fun K hK => ?_)
                    refine goes_ Try.func21 (by kernel_rfl) rfl #[.slice Al x1.length cl, .slice A1q q.length c1q] (by rfl) rfl rfl (by simp only [List.map_toArray, List.map_cons, List.map_nil]; rfl) ?_
                    with_reducible refine (HSL.out).mono ?_
                    rintro e w7 ⟨rfl, hb7⟩
                    refine ⟨_, rfl, ?_⟩
                    have HB7 := Aside0.mk hb7
                    clear hb7
                    refine hK.out _ _ ?_
                    clear hK K
                    refine norm_ (a' := ?_) ?_ ?_
                    rotate_left
                    · show Act.put _ (some 110) _ = _
                      simp only [Act.put, List.setIfInBounds_toArray, List.set_cons_zero, List.set_cons_succ, i64_w, i32_w]
                      rfl
                    refine pure_ (i := 11) (N := some 111) (v := ?_) (a' := ?_) #[true, true, true, true, true, true, true, true, true, true, true, true, false, false, false, false, false, false, false, false, false, false, false, false, false, false] rfl rfl (by kernel_rfl) (fun _ _ _ h => h) (Or.inl ⟨by rfl, ?_⟩) ?_ ?_
                    rotate_left
                    · intro w'
                      go_simp
                      with_reducible rfl
                    rotate_left
                    · simp only [Act.put, List.setIfInBounds_toArray, List.set_cons_zero, List.set_cons_succ, i64_w, i32_w]
                      rfl
                    refine pure_ (i := 12) (N := some 112) (v := undef) (a' := ?_) #[true, true, true, true, true, true, true, true, true, true, true, true, true, false, false, false, false, false, false, false, false, false, false, false, false, false] rfl rfl (by kernel_rfl) (fun _ _ _ h => h) (Or.inr ⟨by rfl, rfl⟩) ?_ ?_
                    rotate_left
                    · simp only [Act.put, List.setIfInBounds_toArray, List.set_cons_zero, List.set_cons_succ, i64_w, i32_w]
                      rfl
                    refine pure_ (i := 13) (N := some 113) (v := undef) (a' := ?_) #[true, true, true, true, true, true, true, true, true, true, true, true, true, true, false, false, false, false, false, false, false, false, false, false, false, false] rfl rfl (by kernel_rfl) (fun _ _ _ h => h) (Or.inr ⟨by rfl, rfl⟩) ?_ ?_
                    rotate_left
                    · simp only [Act.put, List.setIfInBounds_toArray, List.set_cons_zero, List.set_cons_succ, i64_w, i32_w]
                      rfl
                    refine pure_ (i := 14) (N := some 114) (v := undef) (a' := ?_) #[true, true, true, true, true, true, true, true, true, true, true, true, true, true, true, false, false, false, false, false, false, false, false, false, false, false] rfl rfl (by kernel_rfl) (fun _ _ _ h => h) (Or.inr ⟨by rfl, rfl⟩) ?_ ?_
                    rotate_left
                    · simp only [Act.put, List.setIfInBounds_toArray, List.set_cons_zero, List.set_cons_succ, i64_w, i32_w]
                      rfl
                    refine pure_ (i := 15) (N := some 115) (v := undef) (a' := ?_) #[true, true, true, true, true, true, true, true, true, true, true, true, true, true, true, true, false, false, false, false, false, false, false, false, false, false] rfl rfl (by kernel_rfl) (fun _ _ _ h => h) (Or.inr ⟨by rfl, rfl⟩) ?_ ?_
                    rotate_left
                    · simp only [Act.put, List.setIfInBounds_toArray, List.set_cons_zero, List.set_cons_succ, i64_w, i32_w]
                      rfl
                    refine pure_ (i := 16) (N := some 116) (v := undef) (a' := ?_) #[true, true, true, true, true, true, true, true, true, true, true, true, true, true, true, true, true, false, false, false, false, false, false, false, false, false] rfl rfl (by kernel_rfl) (fun _ _ _ h => h) (Or.inr ⟨by rfl, rfl⟩) ?_ ?_
                    rotate_left
                    · simp only [Act.put, List.setIfInBounds_toArray, List.set_cons_zero, List.set_cons_succ, i64_w, i32_w]
                      rfl
                    refine pure_ (i := 17) (N := some 117) (v := undef) (a' := ?_) #[true, true, true, true, true, true, true, true, true, true, true, true, true, true, true, true, true, true, false, false, false, false, false, false, false, false] rfl rfl (by kernel_rfl) (fun _ _ _ h => h) (Or.inr ⟨by rfl, rfl⟩) ?_ ?_
                    rotate_left
                    · simp only [Act.put, List.setIfInBounds_toArray, List.set_cons_zero, List.set_cons_succ, i64_w, i32_w]
                      rfl
                    refine pure_ (i := 18) (N := some 118) (v := undef) (a' := ?_) #[true, true, true, true, true, true, true, true, true, true, true, true, true, true, true, true, true, true, true, false, false, false, false, false, false, false] rfl rfl (by kernel_rfl) (fun _ _ _ h => h) (Or.inr ⟨by rfl, rfl⟩) ?_ ?_
                    rotate_left
                    · simp only [Act.put, List.setIfInBounds_toArray, List.set_cons_zero, List.set_cons_succ, i64_w, i32_w]
                      rfl
                    refine pure_ (i := 19) (N := some 119) (v := undef) (a' := ?_) #[true, true, true, true, true, true, true, true, true, true, true, true, true, true, true, true, true, true, true, true, false, false, false, false, false, false] rfl rfl (by kernel_rfl) (fun _ _ _ h => h) (Or.inr ⟨by rfl, rfl⟩) ?_ ?_
                    rotate_left
                    · simp only [Act.put, List.setIfInBounds_toArray, List.set_cons_zero, List.set_cons_succ, i64_w, i32_w]
                      rfl
                    refine pure_ (i := 20) (N := some 120) (v := undef) (a' := ?_) #[true, true, true, true, true, true, true, true, true, true, true, true, true, true, true, true, true, true, true, true, true, false, false, false, false, false] rfl rfl (by kernel_rfl) (fun _ _ _ h => h) (Or.inr ⟨by rfl, rfl⟩) ?_ ?_
                    rotate_left
                    · simp only [Act.put, List.setIfInBounds_toArray, List.set_cons_zero, List.set_cons_succ, i64_w, i32_w]
                      rfl
                    refine pure_ (i := 21) (N := some 121) (v := undef) (a' := ?_) #[true, true, true, true, true, true, true, true, true, true, true, true, true, true, true, true, true, true, true, true, true, true, false, false, false, false] rfl rfl (by kernel_rfl) (fun _ _ _ h => h) (Or.inr ⟨by rfl, rfl⟩) ?_ ?_
                    rotate_left
                    · simp only [Act.put, List.setIfInBounds_toArray, List.set_cons_zero, List.set_cons_succ, i64_w, i32_w]
                      rfl
                    refine pure_ (i := 22) (N := some 122) (v := undef) (a' := ?_) #[true, true, true, true, true, true, true, true, true, true, true, true, true, true, true, true, true, true, true, true, true, true, true, false, false, false] rfl rfl (by kernel_rfl) (fun _ _ _ h => h) (Or.inr ⟨by rfl, rfl⟩) ?_ ?_
                    rotate_left
                    · simp only [Act.put, List.setIfInBounds_toArray, List.set_cons_zero, List.set_cons_succ, i64_w, i32_w]
                      rfl
                    refine pure_ (i := 23) (N := some 123) (v := undef) (a' := ?_) #[true, true, true, true, true, true, true, true, true, true, true, true, true, true, true, true, true, true, true, true, true, true, true, true, false, false] rfl rfl (by kernel_rfl) (fun _ _ _ h => h) (Or.inr ⟨by rfl, rfl⟩) ?_ ?_
                    rotate_left
                    · simp only [Act.put, List.setIfInBounds_toArray, List.set_cons_zero, List.set_cons_succ, i64_w, i32_w]
                      rfl
                    refine pure_ (i := 24) (N := some 124) (v := undef) (a' := ?_) #[true, true, true, true, true, true, true, true, true, true, true, true, true, true, true, true, true, true, true, true, true, true, true, true, true, false] rfl rfl (by kernel_rfl) (fun _ _ _ h => h) (Or.inr ⟨by rfl, rfl⟩) ?_ ?_
                    rotate_left
                    · simp only [Act.put, List.setIfInBounds_toArray, List.set_cons_zero, List.set_cons_succ, i64_w, i32_w]
                      rfl
                    refine pure_ (i := 25) (N := some 125) (v := ?_) (a' := ?_) #[true, true, true, true, true, true, true, true, true, true, true, true, true, true, true, true, true, true, true, true, true, true, true, true, true, true] rfl rfl (by kernel_rfl) (fun _ _ _ h => h) (Or.inl ⟨by rfl, ?_⟩) ?_ ?_
                    rotate_left
                    · intro w'
                      go_simp
                      with_reducible rfl
                    rotate_left
                    · simp only [Act.put, List.setIfInBounds_toArray, List.set_cons_zero, List.set_cons_succ, i64_w, i32_w]
                      rfl
                    refine done_ (by kernel_rfl) ?_

                    have hbx : Below wr.heap.size wr w7 := (bl_drew (Below.refl _ _)).trans HB7.out
                    have HA7 : Aside0 (Has W.heap.size w7 (storeT p2 (alone q (acc.take (m + 1))) :: TH)) := ⟨by rw [HT2.out]; exact HA.out.below hbx⟩
                    have HB8 := Aside0.mk (HB.out.trans (hbx.mono HA.out.size))
                    clear hbx HB7 HSL HA HB q0 q1 q2 q3 b0 HCC
                    go_wp2_with fail
                    go_roundw
                    case rel => exact ⟨m + 1, by first | rfl | rw [em], by omega, HA7, HB8⟩
                    case measure => first | (simp [intOf]; omega) | (rw [em]; simp [intOf]; omega)
                  | true =>
                    have HT2 : Aside0 (alone q (acc.take (m + 1)) = (addV (alone q (acc.take m)) x1 ⟨x2, x3⟩).2) := ⟨by
                      rw [HT.out]
                      show (if sameLs x1 q = true then _ else _) = _
                      rw [hsm, if_pos rfl]⟩
                    have HZ : Aside0 ((addV (alone q (acc.take m)) x1 ⟨x2, x3⟩).1 = 0) := ⟨HOK2.out rfl hsm⟩
                    rw [hsm] at HSL
                    have HAD : Aside0 (∀ w7, Below wr.drew.heap.size wr.drew w7 → Calls Try.prog 9 #[ptr p2, .slice Al x1.length cl, .agg #[.int .i64 x2, .int .i64 x3]] w7 fun e w' => e = .returned (.int .i64 0) ∧ Has W.heap.size w' (storeT p2 (alone q (acc.take (m + 1))) :: TH) ∧ Below W.heap.size w7 w') := ⟨fun w7 hb => by
                      have hbx : Below wr.heap.size wr w7 := hdr.trans hb
                      have h1 := st_add (HA.out.below hbx) (A := Al) (c := cl) (ls := x1) ⟨x2, x3⟩ (fun w' _ hb' => Kd.C_below HCL.out.2 ((HB.out.trans (hbx.mono HA.out.size)).trans hb')) HCL.out.1 (Kd.C_max HCL.out.2)
                      rw [HZ.out, ← HT2.out] at h1
                      exact h1⟩
                    have HCB : Aside0 (∀ w7, Below wr.drew.heap.size wr.drew w7 → w7.cell? ⟨(adc.add (m * 4)).block, (adc.add (m * 4)).off + 1, none⟩ = some (.slice Al x1.length cl) ∧ w7.cell? (ad.add (k * 2)) = some (.slice A1q q.length c1q) ∧ w7.cell? ⟨(adc.add (m * 4)).block, (adc.add (m * 4)).off + 2, none⟩ = some (.int .i64 x2) ∧ w7.cell? ⟨(adc.add (m * 4)).block, (adc.add (m * 4)).off + 3, none⟩ = some (.int .i64 x3)) := ⟨fun w7 hb => ⟨cell_bl (B := 0) (hdr.trans hb) q1, cell_bl (B := 0) (hdr.trans hb) b0, cell_bl (B := 0) (hdr.trans hb) q2, cell_bl (B := 0) (hdr.trans hb) q3⟩⟩
                    clear HT HOK2 HCL hsm hFR hdr hdW HEX HZ HT2
                    go_wp2_with fail
                    refine start_ (n := 26) (S := fun w' => w'.cell? ⟨(adc.add (m * 4)).block, (adc.add (m * 4)).off + 1, none⟩ = some (.slice Al x1.length cl) ∧ w'.cell? (ad.add (k * 2)) = some (.slice A1q q.length c1q) ∧ w'.cell? ⟨(adc.add (m * 4)).block, (adc.add (m * 4)).off + 2, none⟩ = some (.int .i64 x2) ∧ w'.cell? ⟨(adc.add (m * 4)).block, (adc.add (m * 4)).off + 3, none⟩ = some (.int .i64 x3)) (ds := [23]) #[false, false, false, false, false, false, false, false, false, false, false, false, false, false, false, false, false, false, false, false, false, false, false, false, false, false] (by kernel_rfl) rfl rfl ⟨q1, b0, q2, q3⟩ (fun hHeld => ?_)
                    refine pure_ (i := 0) (N := some 100) (v := ?_) (a' := ?_) #[true, false, false, false, false, false, false, false, false, false, false, false, false, false, false, false, false, false, false, false, false, false, false, false, false, false] rfl rfl (by kernel_rfl) (fun _ _ _ h => h) (Or.inl ⟨by rfl, ?_⟩) ?_ ?_
                    rotate_left
                    · intro w'
                      go_simp
                      with_reducible rfl
                    rotate_left
                    · simp only [Act.put, List.setIfInBounds_toArray, List.set_cons_zero, List.set_cons_succ, i64_w, i32_w]
                      rfl
                    refine pure_ (i := 1) (N := some 101) (v := ?_) (a' := ?_) #[true, true, false, false, false, false, false, false, false, false, false, false, false, false, false, false, false, false, false, false, false, false, false, false, false, false] rfl rfl (by kernel_rfl) (fun _ _ _ h => h) (Or.inl ⟨by rfl, ?_⟩) ?_ ?_
                    rotate_left
                    · intro w'
                      go_simp
                      with_reducible rfl
                    rotate_left
                    · simp only [Act.put, List.setIfInBounds_toArray, List.set_cons_zero, List.set_cons_succ, i64_w, i32_w]
                      rfl
                    refine pure_ (i := 2) (N := some 102) (v := ?_) (a' := ?_) #[true, true, true, false, false, false, false, false, false, false, false, false, false, false, false, false, false, false, false, false, false, false, false, false, false, false] rfl rfl (by kernel_rfl) (fun _ _ _ h => h) (Or.inl ⟨by rfl, ?_⟩) ?_ ?_
                    rotate_left
                    · intro w'
                      go_simp
                      with_reducible rfl
                    rotate_left
                    · simp only [Act.put, List.setIfInBounds_toArray, List.set_cons_zero, List.set_cons_succ, i64_w, i32_w]
                      rfl
                    refine pure_ (i := 3) (N := some 103) (v := ?_) (a' := ?_) #[true, true, true, true, false, false, false, false, false, false, false, false, false, false, false, false, false, false, false, false, false, false, false, false, false, false] rfl rfl (by kernel_rfl) (fun _ _ _ h => h) (Or.inl ⟨by rfl, ?_⟩) ?_ ?_
                    rotate_left
                    · intro w'
                      go_simp
                      with_reducible rfl
                    rotate_left
                    · simp only [Act.put, List.setIfInBounds_toArray, List.set_cons_zero, List.set_cons_succ, i64_w, i32_w]
                      rfl
                    refine pure_ (i := 5) (N := some 105) (v := ?_) (a' := ?_) #[true, true, true, true, false, true, false, false, false, false, false, false, false, false, false, false, false, false, false, false, false, false, false, false, false, false] rfl rfl (by kernel_rfl) (fun _ _ _ h => h) (Or.inl ⟨by rfl, ?_⟩) ?_ ?_
                    rotate_left
                    · intro w'
                      go_simp
                      with_reducible rfl
                    rotate_left
                    · simp only [Act.put, List.setIfInBounds_toArray, List.set_cons_zero, List.set_cons_succ, i64_w, i32_w]
                      rfl
                    refine pure_ (i := 6) (N := some 106) (v := ?_) (a' := ?_) #[true, true, true, true, false, true, true, false, false, false, false, false, false, false, false, false, false, false, false, false, false, false, false, false, false, false] rfl rfl (by kernel_rfl) (fun _ _ _ h => h) (Or.inl ⟨by rfl, ?_⟩) ?_ ?_
                    rotate_left
                    · intro w'
                      go_simp
                      with_reducible rfl
                    rotate_left
                    · simp only [Act.put, List.setIfInBounds_toArray, List.set_cons_zero, List.set_cons_succ, i64_w, i32_w]
                      rfl
                    refine pure_ (i := 7) (N := some 107) (v := ?_) (a' := ?_) #[true, true, true, true, false, true, true, true, false, false, false, false, false, false, false, false, false, false, false, false, false, false, false, false, false, false] rfl rfl (by kernel_rfl) (fun _ _ _ h => h) (Or.inl ⟨by rfl, ?_⟩) ?_ ?_
                    rotate_left
                    · intro w'
                      go_simp
                      with_reducible rfl
                    rotate_left
                    · simp only [Act.put, List.setIfInBounds_toArray, List.set_cons_zero, List.set_cons_succ, i64_w, i32_w]
                      rfl
                    refine pure_ (i := 8) (N := some 108) (v := ?_) (a' := ?_) #[true, true, true, true, false, true, true, true, true, false, false, false, false, false, false, false, false, false, false, false, false, false, false, false, false, false] rfl rfl (by kernel_rfl) (fun _ _ _ h => h) (Or.inl ⟨by rfl, ?_⟩) ?_ ?_
                    rotate_left
                    · intro w'
                      go_simp
                      with_reducible rfl
                    rotate_left
                    · simp only [Act.put, List.setIfInBounds_toArray, List.set_cons_zero, List.set_cons_succ, i64_w, i32_w]
                      rfl
                    refine take_ (i := 4) (N := some 104) (v := ?_) (a' := ?_) #[true, true, true, true, true, true, true, true, true, false, false, false, false, false, false, false, false, false, false, false, false, false, false, false, false, false] rfl rfl (by kernel_rfl) (fun _ _ _ h => h) (Or.inl ⟨by rfl, ?_⟩) hHeld ?_ ?_
                    rotate_left
                    · rintro w' ⟨s0, s1, s2, s3⟩
                      go_simp
                      with_reducible rfl
                    rotate_left
                    · simp only [Act.put, List.setIfInBounds_toArray, List.set_cons_zero, List.set_cons_succ, i64_w, i32_w]
                      rfl
                    refine take_ (i := 9) (N := some 109) (v := ?_) (a' := ?_) #[true, true, true, true, true, true, true, true, true, true, false, false, false, false, false, false, false, false, false, false, false, false, false, false, false, false] rfl rfl (by kernel_rfl) (fun _ _ _ h => h) (Or.inl ⟨by rfl, ?_⟩) hHeld ?_ ?_
                    rotate_left
                    · rintro w' ⟨s0, s1, s2, s3⟩
                      go_simp
                      with_reducible rfl
                    rotate_left
                    · simp only [Act.put, List.setIfInBounds_toArray, List.set_cons_zero, List.set_cons_succ, i64_w, i32_w]
                      rfl
                    refine one_ (i := 10) (N := some 110) #[true, true, true, true, true, true, true, true, true, true, true, false, false, false, false, false, false, false, false, false, false, false, false, false, false, false] rfl rfl (by kernel_rfl) (by decide) (fun K hK => ?_)
                    refine goes_ Try.func21 (by kernel_rfl) rfl #[.slice Al x1.length cl, .slice A1q q.length c1q] (by rfl) rfl rfl (by simp only [List.map_toArray, List.map_cons, List.map_nil]; rfl) ?_
                    with_reducible refine (HSL.out).mono ?_
                    rintro e w7 ⟨rfl, hb7⟩
                    refine ⟨_, rfl, ?_⟩
                    obtain ⟨s0, s1, s2, s3⟩ := HCB.out w7 hb7
                    have HAD7 := Aside0.mk (HAD.out w7 hb7)
                    have HB7 := Aside0.mk hb7
                    clear hb7
                    refine hK.out _ _ ⟨s0, s1, s2, s3⟩ (fun hHeld => ?_)
                    clear hK K
                    refine norm_ (a' := ?_) ?_ ?_
                    rotate_left
                    · show Act.put _ (some 110) _ = _
                      simp only [Act.put, List.setIfInBounds_toArray, List.set_cons_zero, List.set_cons_succ, i64_w, i32_w]
                      rfl
                    refine pure_ (i := 11) (N := some 111) (v := ?_) (a' := ?_) #[true, true, true, true, true, true, true, true, true, true, true, true, false, false, false, false, false, false, false, false, false, false, false, false, false, false] rfl rfl (by kernel_rfl) (fun _ _ _ h => h) (Or.inl ⟨by rfl, ?_⟩) ?_ ?_
                    rotate_left
                    · intro w'
                      go_simp
                      with_reducible rfl
                    rotate_left
                    · simp only [Act.put, List.setIfInBounds_toArray, List.set_cons_zero, List.set_cons_succ, i64_w, i32_w]
                      rfl
                    refine pure_ (i := 12) (N := some 112) (v := ?_) (a' := ?_) #[true, true, true, true, true, true, true, true, true, true, true, true, true, false, false, false, false, false, false, false, false, false, false, false, false, false] rfl rfl (by kernel_rfl) (fun _ _ _ h => h) (Or.inl ⟨by rfl, ?_⟩) ?_ ?_
                    rotate_left
                    · intro w'
                      go_simp
                      with_reducible rfl
                    rotate_left
                    · simp only [Act.put, List.setIfInBounds_toArray, List.set_cons_zero, List.set_cons_succ, i64_w, i32_w]
                      rfl
                    refine pure_ (i := 13) (N := some 113) (v := ?_) (a' := ?_) #[true, true, true, true, true, true, true, true, true, true, true, true, true, true, false, false, false, false, false, false, false, false, false, false, false, false] rfl rfl (by kernel_rfl) (fun _ _ _ h => h) (Or.inl ⟨by rfl, ?_⟩) ?_ ?_
                    rotate_left
                    · intro w'
                      go_simp
                      with_reducible rfl
                    rotate_left
                    · simp only [Act.put, List.setIfInBounds_toArray, List.set_cons_zero, List.set_cons_succ, i64_w, i32_w]
                      rfl
                    refine pure_ (i := 14) (N := some 114) (v := ?_) (a' := ?_) #[true, true, true, true, true, true, true, true, true, true, true, true, true, true, true, false, false, false, false, false, false, false, false, false, false, false] rfl rfl (by kernel_rfl) (fun _ _ _ h => h) (Or.inl ⟨by rfl, ?_⟩) ?_ ?_
                    rotate_left
                    · intro w'
                      go_simp
                      with_reducible rfl
                    rotate_left
                    · simp only [Act.put, List.setIfInBounds_toArray, List.set_cons_zero, List.set_cons_succ, i64_w, i32_w]
                      rfl
                    refine pure_ (i := 15) (N := some 115) (v := ?_) (a' := ?_) #[true, true, true, true, true, true, true, true, true, true, true, true, true, true, true, true, false, false, false, false, false, false, false, false, false, false] rfl rfl (by kernel_rfl) (fun _ _ _ h => h) (Or.inl ⟨by rfl, ?_⟩) ?_ ?_
                    rotate_left
                    · intro w'
                      go_simp
                      with_reducible rfl
                    rotate_left
                    · simp only [Act.put, List.setIfInBounds_toArray, List.set_cons_zero, List.set_cons_succ, i64_w, i32_w]
                      rfl
                    refine pure_ (i := 16) (N := some 116) (v := ?_) (a' := ?_) #[true, true, true, true, true, true, true, true, true, true, true, true, true, true, true, true, true, false, false, false, false, false, false, false, false, false] rfl rfl (by kernel_rfl) (fun _ _ _ h => h) (Or.inl ⟨by rfl, ?_⟩) ?_ ?_
                    rotate_left
                    · intro w'
                      go_simp
                      with_reducible rfl
                    rotate_left
                    · simp only [Act.put, List.setIfInBounds_toArray, List.set_cons_zero, List.set_cons_succ, i64_w, i32_w]
                      rfl
                    refine pure_ (i := 18) (N := some 118) (v := ?_) (a' := ?_) #[true, true, true, true, true, true, true, true, true, true, true, true, true, true, true, true, true, false, true, false, false, false, false, false, false, false] rfl rfl (by kernel_rfl) (fun _ _ _ h => h) (Or.inl ⟨by rfl, ?_⟩) ?_ ?_
                    rotate_left
                    · intro w'
                      go_simp
                      with_reducible rfl
                    rotate_left
                    · simp only [Act.put, List.setIfInBounds_toArray, List.set_cons_zero, List.set_cons_succ, i64_w, i32_w]
                      rfl
                    refine pure_ (i := 19) (N := some 119) (v := ?_) (a' := ?_) #[true, true, true, true, true, true, true, true, true, true, true, true, true, true, true, true, true, false, true, true, false, false, false, false, false, false] rfl rfl (by kernel_rfl) (fun _ _ _ h => h) (Or.inl ⟨by rfl, ?_⟩) ?_ ?_
                    rotate_left
                    · intro w'
                      go_simp
                      with_reducible rfl
                    rotate_left
                    · simp only [Act.put, List.setIfInBounds_toArray, List.set_cons_zero, List.set_cons_succ, i64_w, i32_w]
                      rfl
                    refine pure_ (i := 20) (N := some 120) (v := ?_) (a' := ?_) #[true, true, true, true, true, true, true, true, true, true, true, true, true, true, true, true, true, false, true, true, true, false, false, false, false, false] rfl rfl (by kernel_rfl) (fun _ _ _ h => h) (Or.inl ⟨by rfl, ?_⟩) ?_ ?_
                    rotate_left
                    · intro w'
                      go_simp
                      with_reducible rfl
                    rotate_left
                    · simp only [Act.put, List.setIfInBounds_toArray, List.set_cons_zero, List.set_cons_succ, i64_w, i32_w]
                      rfl
                    refine pure_ (i := 21) (N := some 121) (v := ?_) (a' := ?_) #[true, true, true, true, true, true, true, true, true, true, true, true, true, true, true, true, true, false, true, true, true, true, false, false, false, false] rfl rfl (by kernel_rfl) (fun _ _ _ h => h) (Or.inl ⟨by rfl, ?_⟩) ?_ ?_
                    rotate_left
                    · intro w'
                      go_simp
                      with_reducible rfl
                    rotate_left
                    · simp only [Act.put, List.setIfInBounds_toArray, List.set_cons_zero, List.set_cons_succ, i64_w, i32_w]
                      rfl
                    refine take_ (i := 17) (N := some 117) (v := ?_) (a' := ?_) #[true, true, true, true, true, true, true, true, true, true, true, true, true, true, true, true, true, true, true, true, true, true, false, false, false, false] rfl rfl (by kernel_rfl) (fun _ _ _ h => h) (Or.inl ⟨by rfl, ?_⟩) hHeld ?_ ?_
                    rotate_left
                    · rintro w' ⟨s0, s1, s2, s3⟩
                      go_simp
                      with_reducible rfl
                    rotate_left
                    · simp only [Act.put, List.setIfInBounds_toArray, List.set_cons_zero, List.set_cons_succ, i64_w, i32_w]
                      rfl
                    refine take_ (i := 22) (N := some 122) (v := ?_) (a' := ?_) #[true, true, true, true, true, true, true, true, true, true, true, true, true, true, true, true, true, true, true, true, true, true, true, false, false, false] rfl rfl (by kernel_rfl) (fun _ _ _ h => h) (Or.inl ⟨by rfl, ?_⟩) hHeld ?_ ?_
                    rotate_left
                    · rintro w' ⟨s0, s1, s2, s3⟩
                      go_simp
                      with_reducible rfl
                    rotate_left
                    · simp only [Act.put, List.setIfInBounds_toArray, List.set_cons_zero, List.set_cons_succ, i64_w, i32_w]
                      rfl
                    refine last_ (i := 23) (N := some 123) #[true, true, true, true, true, true, true, true, true, true, true, true, true, true, true, true, true, true, true, true, true, true, true, true, false, false] rfl rfl (by kernel_rfl) (by decide) (fun K hK => ?_)
                    refine goes_ Try.func9 (by kernel_rfl) rfl #[ptr p2, .slice Al x1.length cl, .agg #[.int .i64 x2, .int .i64 x3]] (by rfl) rfl rfl (by simp only [List.map_toArray, List.map_cons, List.map_nil]; rfl) ?_
                    with_reducible refine (HAD7.out).mono ?_
                    rintro e w8 ⟨rfl, hA8, hB8⟩
                    refine ⟨_, rfl, ?_⟩
                    have HA8 := Aside0.mk hA8
                    have HB8 := Aside0.mk hB8
                    clear hA8 hB8
                    refine hK.out _ _ ?_
                    clear hK K
                    refine norm_ (a' := ?_) ?_ ?_
                    rotate_left
                    · show Act.put _ (some 123) _ = _
                      simp only [Act.put, List.setIfInBounds_toArray, List.set_cons_zero, List.set_cons_succ, i64_w, i32_w]
                      rfl
                    refine pure_ (i := 24) (N := some 124) (v := ?_) (a' := ?_) #[true, true, true, true, true, true, true, true, true, true, true, true, true, true, true, true, true, true, true, true, true, true, true, true, true, false] rfl rfl (by kernel_rfl) (fun _ _ _ h => h) (Or.inl ⟨by rfl, ?_⟩) ?_ ?_
                    rotate_left
                    · intro w'
                      go_simp
                      with_reducible rfl
                    rotate_left
                    · simp only [Act.put, List.setIfInBounds_toArray, List.set_cons_zero, List.set_cons_succ, i64_w, i32_w]
                      rfl
                    refine pure_ (i := 25) (N := some 125) (v := ?_) (a' := ?_) #[true, true, true, true, true, true, true, true, true, true, true, true, true, true, true, true, true, true, true, true, true, true, true, true, true, true] rfl rfl (by kernel_rfl) (fun _ _ _ h => h) (Or.inl ⟨by rfl, ?_⟩) ?_ ?_
                    rotate_left
                    · intro w'
                      go_simp
                      with_reducible rfl
                    rotate_left
                    · simp only [Act.put, List.setIfInBounds_toArray, List.set_cons_zero, List.set_cons_succ, i64_w, i32_w]
                      rfl
                    refine done_ (by kernel_rfl) ?_

                    have HB9 := Aside0.mk ((HB.out.trans ((((bl_drew (Below.refl _ _)).trans HB7.out) : Below wr.heap.size wr w7).mono HA.out.size)).trans HB8.out)
                    clear HB7 HB8 HSL HAD HAD7 HA HB q0 q1 q2 q3 b0 HCC HCB
                    go_wp2_with fail
                    go_roundw
                    case rel => exact ⟨m + 1, by first | rfl | rw [em], by omega, HA8, HB9⟩
                    case measure => first | (simp [intOf]; omega) | (rw [em]; simp [intOf]; omega)
              · obtain rfl : m = hs.length := by omega
                have d1 : decide ((hs.length : Int) < (hs.length : Int)) = false := decide_eq_false (by omega)
                rw [show acc.take hs.length = acc from by rw [hhl]; exact List.take_length] at HA
                have HAL := Aside0.mk (st_all HA.out)
                rw [HON1.out] at HAL
                clear HA hltm
                go_wp2_with fail
                refine HAL.out.mono ?_
                rintro e w7 ⟨Ab, nb, cb, rfl, hA7, hB7⟩
                have HB7 := Aside0.mk (HB.out.trans hB7)
                obtain ⟨N, hN, hA8⟩ := finds_open hA7
                have hnb : nb = 1 := by
                  have := view_len hN
                  rw [(find_n hA8 (List.mem_cons_self ..)).1]
                  exact this
                subst hnb
                obtain ⟨ad2, eb, A1r, n1r, c1r, A2r, n2r, c2r, hFN⟩ := reads_of hA8 hN (List.mem_cons_self ..) (fun T hT => List.mem_cons_of_mem _ (List.mem_append_left _ hT)) (k := 0) (by show 0 < 1; omega)
                subst eb
                obtain ⟨g2, rfl⟩ := row_plain hA8 (List.mem_cons_self ..)
                have hA9 : Has W.heap.size w7 ((rowF (.slice (some ⟨g2, 0, none⟩) 1 cb) (N.map plF) :: (tf N ++ [storeT p2 (alone q acc)])) ++ TH) := by simpa [List.append_assoc] using hA8
                obtain ⟨ad, eA, A1q, n1q, c1q, A2q, n2q, c2q, hFR⟩ := HRA.out w7 _ hA9
                subst eA
                have hdr : Below w7.heap.size w7 w7.drew := bl_drew (Below.refl _ _)
                have HSS := Aside0.mk (sames_c (hFN.below hdr).C1 hFN.le1 (hFR.below hdr).C1 hFR.le1)
                rw [show sameSs (⟨(A1r, n1r, c1r), (A2r, n2r, c2r), ([((q, xs) : PV)][0]).1, ([((q, xs) : PV)][0]).2⟩ : FE).xs (⟨(A1q, n1q, c1q), (A2q, n2q, c2q), q, xs⟩ : FE).xs = true from sameSs_iff.2 rfl] at HSS
                have g1 : w7.cell? ⟨g2, 1, none⟩ = some (.slice A2r xs.length c2r) := hFN.c1
                have b1 := hFR.c1
                have HSS : Aside0 (Calls Try.prog 22 #[.slice A2r xs.length c2r, .slice A2q xs.length c2q] w7.drew fun e w' => e = .returned (.bool true) ∧ Below w7.drew.heap.size w7.drew w') := HSS
                dsimp only at b1
                have HFR := Aside0.mk hFR
                have HA9 := Aside0.mk hA9
                have d4 : decide ((k : Int) < (V.length : Int)) = true := decide_eq_true (by omega)
                have d4' : (k : Int) < (V.length : Int) := by omega
                have d5 : decide (0 ≤ (k : Int)) = true := decide_eq_true (by omega)
                clear hA7 hB7 hA8 hA9 hN hFN hFR hdr HAL HB
                go_wp2_with fail
                refine start_ (n := 16) (S := fun w' => w'.cell? ⟨g2, 1, none⟩ = some (.slice A2r xs.length c2r) ∧ w'.cell? ⟨(ad.add (k * 2)).block, (ad.add (k * 2)).off + 1, none⟩ = some (.slice A2q xs.length c2q)) (ds := [13]) #[false, false, false, false, false, false, false, false, false, false, false, false, false, false, false, false] (by kernel_rfl) rfl rfl ⟨g1, b1⟩ (fun hHeld => ?_)
                refine pure_ (i := 0) (N := some 128) (v := ?_) (a' := ?_) #[true, false, false, false, false, false, false, false, false, false, false, false, false, false, false, false] rfl rfl (by kernel_rfl) (fun _ _ _ h => h) (Or.inl ⟨by rfl, ?_⟩) ?_ ?_
                rotate_left
                · intro w'
                  go_simp
                  with_reducible rfl
                rotate_left
                · simp only [Act.put, List.setIfInBounds_toArray, List.set_cons_zero, List.set_cons_succ, i64_w, i32_w]
                  rfl
                refine pure_ (i := 1) (N := some 129) (v := ?_) (a' := ?_) #[true, true, false, false, false, false, false, false, false, false, false, false, false, false, false, false] rfl rfl (by kernel_rfl) (fun _ _ _ h => h) (Or.inl ⟨by rfl, ?_⟩) ?_ ?_
                rotate_left
                · intro w'
                  go_simp
                  with_reducible rfl
                rotate_left
                · simp only [Act.put, List.setIfInBounds_toArray, List.set_cons_zero, List.set_cons_succ, i64_w, i32_w]
                  rfl
                refine pure_ (i := 2) (N := some 130) (v := ?_) (a' := ?_) #[true, true, true, false, false, false, false, false, false, false, false, false, false, false, false, false] rfl rfl (by kernel_rfl) (fun _ _ _ h => h) (Or.inl ⟨by rfl, ?_⟩) ?_ ?_
                rotate_left
                · intro w'
                  go_simp
                  with_reducible rfl
                rotate_left
                · simp only [Act.put, List.setIfInBounds_toArray, List.set_cons_zero, List.set_cons_succ, i64_w, i32_w]
                  rfl
                refine pure_ (i := 3) (N := some 131) (v := ?_) (a' := ?_) #[true, true, true, true, false, false, false, false, false, false, false, false, false, false, false, false] rfl rfl (by kernel_rfl) (fun _ _ _ h => h) (Or.inl ⟨by rfl, ?_⟩) ?_ ?_
                rotate_left
                · intro w'
                  go_simp
                  with_reducible rfl
                rotate_left
                · simp only [Act.put, List.setIfInBounds_toArray, List.set_cons_zero, List.set_cons_succ, i64_w, i32_w]
                  rfl
                refine pure_ (i := 4) (N := some 132) (v := ?_) (a' := ?_) #[true, true, true, true, true, false, false, false, false, false, false, false, false, false, false, false] rfl rfl (by kernel_rfl) (fun _ _ _ h => h) (Or.inl ⟨by rfl, ?_⟩) ?_ ?_
                rotate_left
                · intro w'
                  go_simp
                  with_reducible rfl
                rotate_left
                · simp only [Act.put, List.setIfInBounds_toArray, List.set_cons_zero, List.set_cons_succ, i64_w, i32_w]
                  rfl
                refine pure_ (i := 5) (N := some 133) (v := ?_) (a' := ?_) #[true, true, true, true, true, true, false, false, false, false, false, false, false, false, false, false] rfl rfl (by kernel_rfl) (fun _ _ _ h => h) (Or.inl ⟨by rfl, ?_⟩) ?_ ?_
                rotate_left
                · intro w'
                  go_simp
                  with_reducible rfl
                rotate_left
                · simp only [Act.put, List.setIfInBounds_toArray, List.set_cons_zero, List.set_cons_succ, i64_w, i32_w]
                  rfl
                refine pure_ (i := 6) (N := some 134) (v := ?_) (a' := ?_) #[true, true, true, true, true, true, true, false, false, false, false, false, false, false, false, false] rfl rfl (by kernel_rfl) (fun _ _ _ h => h) (Or.inl ⟨by rfl, ?_⟩) ?_ ?_
                rotate_left
                · intro w'
                  go_simp
                  with_reducible rfl
                rotate_left
                · simp only [Act.put, List.setIfInBounds_toArray, List.set_cons_zero, List.set_cons_succ, i64_w, i32_w]
                  rfl
                refine pure_ (i := 8) (N := some 136) (v := ?_) (a' := ?_) #[true, true, true, true, true, true, true, false, true, false, false, false, false, false, false, false] rfl rfl (by kernel_rfl) (fun _ _ _ h => h) (Or.inl ⟨by rfl, ?_⟩) ?_ ?_
                rotate_left
                · intro w'
                  go_simp
                  with_reducible rfl
                rotate_left
                · simp only [Act.put, List.setIfInBounds_toArray, List.set_cons_zero, List.set_cons_succ, i64_w, i32_w]
                  rfl
                refine pure_ (i := 9) (N := some 137) (v := ?_) (a' := ?_) #[true, true, true, true, true, true, true, false, true, true, false, false, false, false, false, false] rfl rfl (by kernel_rfl) (fun _ _ _ h => h) (Or.inl ⟨by rfl, ?_⟩) ?_ ?_
                rotate_left
                · intro w'
                  go_simp
                  with_reducible rfl
                rotate_left
                · simp only [Act.put, List.setIfInBounds_toArray, List.set_cons_zero, List.set_cons_succ, i64_w, i32_w]
                  rfl
                refine pure_ (i := 10) (N := some 138) (v := ?_) (a' := ?_) #[true, true, true, true, true, true, true, false, true, true, true, false, false, false, false, false] rfl rfl (by kernel_rfl) (fun _ _ _ h => h) (Or.inl ⟨by rfl, ?_⟩) ?_ ?_
                rotate_left
                · intro w'
                  go_simp
                  with_reducible rfl
                rotate_left
                · simp only [Act.put, List.setIfInBounds_toArray, List.set_cons_zero, List.set_cons_succ, i64_w, i32_w]
                  rfl
                refine pure_ (i := 11) (N := some 139) (v := ?_) (a' := ?_) #[true, true, true, true, true, true, true, false, true, true, true, true, false, false, false, false] rfl rfl (by kernel_rfl) (fun _ _ _ h => h) (Or.inl ⟨by rfl, ?_⟩) ?_ ?_
                rotate_left
                · intro w'
                  go_simp
                  with_reducible rfl
                rotate_left
                · simp only [Act.put, List.setIfInBounds_toArray, List.set_cons_zero, List.set_cons_succ, i64_w, i32_w]
                  rfl
                refine take_ (i := 7) (N := some 135) (v := ?_) (a' := ?_) #[true, true, true, true, true, true, true, true, true, true, true, true, false, false, false, false] rfl rfl (by kernel_rfl) (fun _ _ _ h => h) (Or.inl ⟨by rfl, ?_⟩) hHeld ?_ ?_
                rotate_left
                · rintro w' ⟨s0, s1⟩
                  go_simp
                  with_reducible rfl
                rotate_left
                · simp only [Act.put, List.setIfInBounds_toArray, List.set_cons_zero, List.set_cons_succ, i64_w, i32_w]
                  rfl
                refine take_ (i := 12) (N := some 140) (v := ?_) (a' := ?_) #[true, true, true, true, true, true, true, true, true, true, true, true, true, false, false, false] rfl rfl (by kernel_rfl) (fun _ _ _ h => h) (Or.inl ⟨by rfl, ?_⟩) hHeld ?_ ?_
                rotate_left
                · rintro w' ⟨s0, s1⟩
                  go_simp
                  with_reducible rfl
                rotate_left
                · simp only [Act.put, List.setIfInBounds_toArray, List.set_cons_zero, List.set_cons_succ, i64_w, i32_w]
                  rfl
                refine last_ (i := 13) (N := some 141) #[true, true, true, true, true, true, true, true, true, true, true, true, true, true, false, false] rfl rfl (by kernel_rfl) (by decide) (fun K hK => ?_)
                refine goes_ Try.func22 (by kernel_rfl) rfl #[.slice A2r xs.length c2r, .slice A2q xs.length c2q] (by rfl) rfl rfl (by simp only [List.map_toArray, List.map_cons, List.map_nil]; rfl) ?_
                with_reducible refine (HSS.out).mono ?_
                rintro e w8 ⟨rfl, hb8⟩
                refine ⟨_, rfl, ?_⟩
                have HB8 := Aside0.mk hb8
                clear hb8
                refine hK.out _ _ ?_
                clear hK K
                refine norm_ (a' := ?_) ?_ ?_
                rotate_left
                · show Act.put _ (some 141) _ = _
                  simp only [Act.put, List.setIfInBounds_toArray, List.set_cons_zero, List.set_cons_succ, i64_w, i32_w]
                  rfl
                refine pure_ (i := 14) (N := some 142) (v := ?_) (a' := ?_) #[true, true, true, true, true, true, true, true, true, true, true, true, true, true, true, false] rfl rfl (by kernel_rfl) (fun _ _ _ h => h) (Or.inl ⟨by rfl, ?_⟩) ?_ ?_
                rotate_left
                · intro w'
                  go_simp
                  with_reducible rfl
                rotate_left
                · simp only [Act.put, List.setIfInBounds_toArray, List.set_cons_zero, List.set_cons_succ, i64_w, i32_w]
                  rfl
                refine pure_ (i := 15) (N := some 143) (v := ?_) (a' := ?_) #[true, true, true, true, true, true, true, true, true, true, true, true, true, true, true, true] rfl rfl (by kernel_rfl) (fun _ _ _ h => h) (Or.inl ⟨by rfl, ?_⟩) ?_ ?_
                rotate_left
                · intro w'
                  go_simp
                  with_reducible rfl
                rotate_left
                · simp only [Act.put, List.setIfInBounds_toArray, List.set_cons_zero, List.set_cons_succ, i64_w, i32_w]
                  rfl
                refine done_ (by kernel_rfl) ?_

                have hbx : Below w7.heap.size w7 w8 := (bl_drew (Below.refl _ _)).trans HB8.out
                have HA10 := Aside0.mk (has_drop (HA9.out.below hbx))
                have HB10 := Aside0.mk (HB7.out.trans (hbx.mono HA9.out.size))
                have b2 := (HFR.out.below hbx).c1
                dsimp only at b2
                have hadd : wrap64 ((sumV (V.take k) : Int) + (xs.length : Int)) = ((sumV (V.take k) + xs.length : Nat) : Int) := (w64 (by omega) (by omega)).trans (by omega)
                clear hbx HB8 HA9 HB7 HFR HSS g1 b1
                go_wp2_with fail
                go_roundw
                case rel => exact ⟨k + 1, by first | rfl | rw [EK.out], by rw [HSU.out]; first | rfl | rw [hadd], by omega, HA10, HB10⟩
                case measure => first | (simp [intOf]; omega) | (rw [EK.out]; simp [intOf]; omega)
          · obtain rfl : k = V.length := by omega
            have d1 : decide ((V.length : Int) < (V.length : Int)) = false := decide_eq_false (by omega)
            rw [List.take_length]
            have HEX := Aside0.mk (st_exp (HOUT.out wr HA.out) 9223372036854775807)
            rw [show expV V 9223372036854775807 = [] from HXA.out.1, show expVN V 9223372036854775807 = sumV V from HXA.out.2] at HEX
            generalize sumV V = n at HEX
            clear hsum
            go_wp2_with fail
            refine HEX.out.mono ?_
            rintro e w6 ⟨rfl, hA6, hB6⟩
            have HLE := Aside0.mk (st_len hA6)
            have HB6 := Aside0.mk (HB.out.trans hB6)
            clear hA6 hB6 HEX HB HA
            go_wp2_with fail
            refine HLE.out.mono ?_
            rintro e w7 ⟨rfl, rfl⟩
            go_wp2_with fail
            refine (awake_calls _).mono ?_
            rintro e w7 ⟨rfl, hb7⟩
            go_wp2_with fail
            go_ret
            exact ⟨rfl, HB6.out.trans (hb7.mono HB6.out.size)⟩
end Go.Proofs.Ytlhlaadnifkdhaa.Sr
